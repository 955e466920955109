/- The engine, part A: abstract values, the abstract heap, the abstract interpreter. No statement is proved here. -/
import Derived.RangeFuncLeaves
import Derived.OrdersIn
import Derived.RangeFuncRecord
namespace Go.Eng
theorem nP:(∀ {α:Type} (a b:α),(some a=some b)=(a=b))∧(∀ {α β:Type} (a c:α) (b d:β),((a,b)=(c,d))=(a=c∧b=d)):=⟨fun _ _=>Option.some.injEq _ _,fun _ _ _ _=>Prod.mk.injEq _ _ _ _⟩

mutual
inductive AV where
 | undef
 | bool (b:Bool)
 | int (k:IntKind) (n:Int)
 | str (s:ByteArray)
 | nilp | nils | nilm | nilf
 | ptr (d i v off:Nat)
 | ptrT (s:Option Nat) (r:Row) (off:Nat)
 | slc (d i v off sz len:Nat) (cap:Option Nat)
 | slcT (s:Option Nat) (r:Row) (sz len:Nat) (full:Bool)
 | map (d i:Nat)
 | yld (d i:Nat)
 | fn (f:Fn) (first cap:List AV)
 | agg (r:Row)
 | tup (l:List AV)
inductive Row where
 | I (k:IntKind) (l:List Int)
 | G (l:List AV)
 | F (f:Nat→AV) (n:Nat)
 | M (l:List aM)
inductive aM where
 | one (v:AV)
 | arr (k:IntKind) (z:Nat→Int) (n:Nat)
end

instance:Inhabited AV:=⟨.undef⟩
instance:Inhabited Row:=⟨.G []⟩

def aN:aM→Nat
 | .one _=>1
 | .arr _ _ n=>n
def aD:List aM→Nat
 | []=>0
 | s::r=>aN s+aD r
def getM:List aM→Nat→AV
 | [],_=>.undef
 | .one v::_,0=>v
 | .one _::r,j+1=>getM r j
 | .arr k z n::r,j=>if j<n then .int k (z j) else getM r (j-n)
def mapM' (f:AV→AV):List aM→List aM
 | []=>[]
 | .one v::r=>.one (f v)::mapM' f r
 | .arr k z n::r=>.arr k z n::mapM' f r
def gb:List aM→Bool
 | []=>true
 | .one _::_=>false
 | .arr _ _ _::r=>gb r
def Row.len:Row→Nat
 | .I _ l=>l.length
 | .G l=>l.length
 | .F _ n=>n
 | .M l=>aD l
def Row.get:Row→Nat→AV
 | .I k l,j=>.int k (l.getD j 0)
 | .G l,j=>l.getD j .undef
 | .F f _,j=>f j
 | .M l,j=>getM l j

def dD (g:Nat→AV):Nat→Nat→List AV
 | _,0=>[]
 | o,n+1=>g o::dD g (o+1) n
def Row.toList:Row→List AV
 | .I k l=>l.map (.int k)
 | .G l=>l
 | .F f n=>dD f 0 n
 | .M l=>dD (getM l) 0 (aD l)
def Row.ints:Row→Option (IntKind×(Nat→Int))
 | .I k l=>some (k,fun j=>l.getD j 0)
 | .M [.arr k z _]=>some (k,z)
 | _=>none
def y9:Row→Bool
 | .M _=>true
 | _=>false
def qU:List AV→List aM→List aM
 | [],r=>r
 | v::l,r=>.one v::qU l r
def j9:List aM→Nat→AV→List aM
 | [],_,_=>[]
 | .one _::r,0,v=>.one v::r
 | .one u::r,j+1,v=>.one u::j9 r j v
 | .arr k z n::r,j,v=>if j<n then (match v with
    | .int k' x=>if k'=k then .arr k (fun i=>if i=j then x else z i) n::r else qU (dD (fun i=>if i=j then v else .int k (z i)) 0 n) r
    | _=>qU (dD (fun i=>if i=j then v else .int k (z i)) 0 n) r)
   else .arr k z n::j9 r (j-n) v
def ym:List Int→Bool
 | []=>true
 | x::l=>x == 0 && ym l
def NN (l:List Int):Nat→Int:=if ym l then fun _=>0 else fun j=>l.getD j 0
def dk (k:IntKind):List AV→List Int×List AV
 | .int k' n::r=>if k'=k then (match dk k r with | (a,b)=>(n::a,b)) else ([],.int k' n::r)
 | l=>([],l)
def iz:Nat→List AV→List aM
 | 0,l=>qU l []
 | _,[]=>[]
 | f+1,.int k n::r=>match dk k r with
   | (a,b)=>if Nat.ble 7 a.length then .arr k (NN (n::a)) (a.length+1)::iz f b else .one (.int k n)::iz f r
 | f+1,v::r=>.one v::iz f r

def tC (k:IntKind):List AV→Option (List Int)
 | []=>some []
 | .int k' n::r=>if k'=k then (tC k r).map (n::·) else none
 | _=>none
def Row.ofList:List AV→Row
 | .int k n::r=>match tC k r with
   | some l=>.I k (n::l)
   | none=>.G (.int k n::r)
 | l=>.G l

def lH:List aM→Nat→Nat→Option (IntKind×(Nat→Int))
 | [],_,_=>none
 | .one _::r,o+1,n=>lH r o n
 | .one _::_,0,_=>none
 | .arr k z m::r,o,n=>if o+n≤m then some (k,fun j=>z (o+j)) else if m≤o then lH r (o-m) n else none
def Row.sub (r:Row) (o n:Nat):Row :=
 match r with
 | .I k l=>.I k ((l.drop o).take n)
 | .G l=>.G ((l.drop o).take n)
 | .F f _=>.F (fun j=>f (o+j)) n
 | .M [.arr k z _]=>.M [.arr k (fun j=>z (o+j)) n]
 | .M l=>if Nat.beq o 0 && Nat.beq (aD l) n then .M l else match lH l o n with
   | some (k,z)=>.M [.arr k z n]
   | none=>.G (dD (getM l) o n)

def ig:AV→Bool
 | .undef | .bool _ | .int _ _ | .str _ | .nilp | .nils | .nilm | .nilf=>true
 | .ptrT s _ _=>s.isNone
 | .slcT s _ _ _ _=>s.isNone
 | .agg (.I ..) | .agg (.F ..)=>true
 | .agg (.M l)=>gb l
 | _=>false

def Row.cut (r:Row) (o n:Nat):Row :=
 match r with
 | .G l=>Row.ofList ((l.drop o).take n)
 | .M l=>if Nat.ble n 8 then Row.ofList (dD (getM l) o n) else if Nat.beq o 0 && Nat.beq (aD l) n then .M l else (Row.M l).sub o n
 | r=>r.sub o n

def Row.set (r:Row) (j:Nat) (v:AV):Row :=
 match r,v with
 | .I k l,.int k' n=>if k'=k then .I k (l.set j n) else .G ((l.map (.int k)).set j v)
 | .I k l,v=>.G ((l.map (.int k)).set j v)
 | .G l,v=>.G (l.set j v)
 | .F f n,v=>.F (fun i=>if i=j then (if ig v then v else .undef) else f i) n
 | .M l,v=>.M (j9 l j v)
def Row.cN (r:Row) (j:Nat):List AV→Row
 | []=>r
 | v::l=>(r.set j v).cN (j+1) l
def Row.uQ (r s:Row):Option Row :=
 match r.ints,s.ints with
 | some (k,z),some (k',z')=>if k'=k then some (.M [.arr k (fun i=>if i<r.len then z i else z' (i-r.len)) (r.len+s.len)]) else none
 | _,_=>none
def nJ:AV→AV
 | .slcT none (.I k l) sz m _=>.slcT none (.M [.arr k (fun j=>l.getD j 0) l.length]) sz m false
 | .slcT none (.M [.arr k z n]) sz m _=>.slcT none (.M [.arr k z n]) sz m false
 | v=>v
def rJ (n i:Nat):Nat:=if Nat.beq n 1 then 0 else i
def Row.app (r s:Row):Row :=
 match r,s with
 | .M l,s=>(match (Row.M l).uQ s with | some q=>q | none=>.G ((Row.M l).toList++s.toList))
 | .I k l,.M m=>(match (Row.I k l).uQ (.M m) with | some q=>q | none=>.G ((Row.I k l).toList++(Row.M m).toList))
 | .I k l,.I k' l'=>if k'=k then .I k (l++l') else .G (l.map (.int k)++l'.map (.int k'))
 | .F f n,s=>.F (fun i=>if Nat.blt i n then f i else if ig (s.get (rJ s.len (i-n))) then nJ (s.get (rJ s.len (i-n))) else .undef) (n+s.len)
 | r,s=>.G (r.toList++s.toList)

def oN (k:Nat):AV→AV
 | .ptr d i v off=>.ptr (d+k) i v off
 | .ptrT s r off=>.ptrT (s.map (· + k)) r off
 | .slc d i v off sz len cap=>.slc (d+k) i v off sz len cap
 | .slcT s r sz len full=>.slcT (s.map (· + k)) r sz len full
 | .map d i=>.map (d+k) i
 | .yld d i=>.yld (d+k) i
 | .agg (.I a l)=>.agg (.I a l)
 | .fn _ _ _ | .agg _ | .tup (_::_)=>.undef
 | v=>v
def NB (k:Nat) (v:AV):AV :=
 match v with
 | .fn f a b=>.fn f (a.map (oN k)) (b.map (oN k))
 | .agg (.G l)=>.agg (.G (l.map (oN k)))
 | .agg (.M l)=>.agg (.M (mapM' (oN k) l))
 | .agg r=>.agg r
 | v=>oN k v
def gC (k:Nat) (v:AV):AV :=
 match k with
 | 0=>v
 | k+1=>NB (k+1) v
def Bv (k:Nat):Row→Row
 | .I a l=>.I a l
 | .G l=>.G (l.map (oN k))
 | .F f n=>.F f n
 | .M l=>.M (mapM' (oN k) l)
def Bu (k:Nat) (r:Row):Row :=
 match k with
 | 0=>r
 | k+1=>Bv (k+1) r
def kR:Nat→Nat→AV→AV
 | 0,_,_=>.undef
 | n + 1,k,v=>match v with
   | .ptr d i v off=>if Nat.blt d k then .undef else .ptr (d-k) i v off
   | .ptrT none r off=>.ptrT none r off
   | .ptrT (some s) r off=>if Nat.blt s k then (match r with
     | .G l=>.ptrT (some 0) (.G (l.map (kR n (k-s)))) off
     | .M l=>if gb l then .ptrT none (.M l) off else .ptrT (some 0) (.M (mapM' (kR n (k-s)) l)) off
     | r=>.ptrT none r off) else .ptrT (some (s-k)) r off
   | .slc d i v off sz len cap=>if Nat.blt d k then .undef else .slc (d-k) i v off sz len cap
   | .slcT none r sz len full=>.slcT none r sz len full
   | .slcT (some s) r sz len full=>if Nat.blt s k then (match r with
     | .G l=>.slcT (some 0) (.G (l.map (kR n (k-s)))) sz len full
     | .M l=>if gb l then .slcT none (.M l) sz len full else .slcT (some 0) (.M (mapM' (kR n (k-s)) l)) sz len full
     | r=>.slcT none r sz len full) else .slcT (some (s-k)) r sz len full
   | .map d i=>if Nat.blt d k then .undef else .map (d-k) i
   | .yld d i=>if Nat.blt d k then .undef else .yld (d-k) i
   | .agg (.I a l)=>.agg (.I a l)
   | .fn _ _ _ | .agg _ | .tup (_::_)=>.undef
   | v=>v
def Lr (k:Nat) (v:AV):AV :=
 match v with
 | .fn f a b=>.fn f (a.map (kR 4 k)) (b.map (kR 4 k))
 | .agg (.G l)=>.agg (.G (l.map (kR 4 k)))
 | .agg (.M l)=>.agg (.M (mapM' (kR 4 k) l))
 | .agg r=>.agg r
 | v=>kR 4 k v
def Ow (k:Nat) (v:AV):AV :=
 match k with
 | 0=>v
 | k+1=>Lr (k+1) v
def w9 (k:Nat):Row→Row
 | .I a l=>.I a l
 | .G l=>.G (l.map (kR 4 k))
 | .F f n=>.F f n
 | .M l=>.M (mapM' (kR 4 k) l)

def jG (k:Nat) (r:Row):Row :=
 match k with
 | 0=>r
 | k+1=>w9 (k+1) r

abbrev av:=List (Nat×AV)
def bw:av→Nat→AV
 | [],_=>.undef
 | (x,v)::r,y=>if Nat.beq x y then v else bw r y
def uW:av→Nat→AV→av
 | [],y,u=>[(y,u)]
 | (x,v)::r,y,u=>if Nat.ble y x then (if Nat.beq x y then (y,u)::r else (y,u)::(x,v)::r) else (x,v)::uW r y u
def ou (m x:Nat):Bool:=Nat.beq (Nat.land (Nat.shiftRight m x) 1) 1
noncomputable def bV (fr:av) (m:Nat):av:=List.rec (motive:=fun _=>av) [] (fun p _ ih=>Prod.rec (motive:=fun _=>av) (fun x _=>Bool.rec (motive:=fun _=>av) (p::ih) ih (Nat.beq (Nat.land (Nat.shiftRight m x) 1) 1)) p) fr

structure dF where
 state:LoopState
 pending:Option Code
 fn:FuncId
 nt:Nat
 fr:av
 params:List Tmp
 assign:Code
 body:Code

inductive KK where
 | num (k:IntKind)
 | str (n:Nat)
inductive aj where
 | dead
 | row (r:Row)
 | map (es:List (AV×AV))
 | fmap (q:KK) (h:List Int→Bool) (g:List Int→Int) (c:Nat)
 | loop (l:dF)

structure bx where
 lock:Bool
 bs:List (Nat×aj)
abbrev aa:=List bx

def aq:List (Nat×aj)→Nat→Nat×aj
 | [],_=>(0,.dead)
 | b::_,0=>b
 | _::r,i+1=>aq r i
def bN:List (Nat×aj)→Nat→Nat×aj→List (Nat×aj)
 | [],_,_=>[]
 | _::r,0,x=>x::r
 | b::r,i+1,x=>b::bN r i x
def au:aa→Nat→Nat→Nat×aj
 | [],_,_=>(0,.dead)
 | l::_,0,i=>aq l.bs i
 | _::r,d+1,i=>au r d i
def az:aa→Nat→Bool
 | [],_=>true
 | l::_,0=>l.lock
 | _::r,d+1=>az r d
def dq:aa→Nat→Nat→Nat×aj→aa
 | [],_,_,_=>[]
 | l::r,0,i,x=>{ l with bs:=bN l.bs i x } :: r
 | l::r,d+1,i,x=>l::dq r d i x
def cI (H:aa) (d i:Nat):aa:=dq H d i ((au H d i).1,.dead)
def iZ:aa→aj→aa
 | [],b=>[⟨false,[(0,b)]⟩]
 | l::r,b=>{ l with bs:=l.bs++[(0,b)] } :: r
def bC:aa→Nat→aj→aa
 | [],_,_=>[]
 | l::r,0,b=>{ l with bs:=l.bs++[(0,b)] } :: r
 | l::r,d+1,b=>l::bC r d b
def ah:aa→Nat→Nat
 | [],_=>0
 | l::_,0=>l.bs.length
 | _::r,d+1=>ah r d
def ar:aa→Nat
 | []=>0
 | l::_=>l.bs.length
def aA:aa→aa
 | []=>[]
 | l::r=>{ l with lock:=true } :: aA r

def dp (H:aa) (d i v:Nat):Option Row :=
 match au H d i with
 | (ver,.row r)=>if Nat.beq ver v then some r else none
 | _=>none

def sZ:Value→AV
 | .bool b=>.bool b
 | .int k n=>.int k n
 | .string s=>.str s
 | .pointer none=>.nilp
 | .slice none 0 0=>.nils
 | .map none=>.nilm
 | .nilFunc=>.nilf
 | _=>.undef
def la:Value→AV
 | .bool b=>.bool b
 | .int k n=>.int k n
 | .string s=>.str s
 | .pointer none=>.nilp
 | .slice none 0 0=>.nils
 | .map none=>.nilm
 | .nilFunc=>.nilf
 | .func (.func f) ca cb=>if ca.isEmpty && cb.isEmpty then .fn (.func f) [] [] else .undef
 | .agg cs=>if cs.toList.all Value.oneCell' then .agg (Row.ofList (cs.toList.map sZ)) else .undef
 | .tuple cs=>if cs.isEmpty then .tup [] else .undef
 | _=>.undef

def bO (fr:av):Operand→AV
 | .tmp t=>bw fr t
 | .const v=>la v
 | .global _=>.undef
 | .func f=>.fn (.func f) [] []

def AV.row:AV→Option Row
 | .agg r=>some r
 | .int k n=>some (.I k [n])
 | .undef | .tup _=>none
 | v=>some (.G [v])

def fA (P:Program) (t:TypeId):Option Bool :=
 match P.underlying t with
 | some (.struct _) | some (.array _ _)=>some true
 | some _=>some false
 | none=>none
def br (P:Program) (t:TypeId):Option Nat:=(P.info? t).map (·.size)
def cO (P:Program) (t:TypeId):Option AV:=((P.info? t).bind (·.zero)).map la

inductive Delta where
 | bf
 | push (b:aj)
 | set (d i:Nat) (b:Nat×aj)
 | heap (H:aa)
def Delta.on (δ:Delta) (H:aa):aa :=
 match δ with
 | .bf=>H
 | .push b=>iZ H b
 | .set d i b=>dq H d i b
 | .heap H=>H

inductive ND where
 | fn (f:FuncId)
 | round (d i:Nat)
 | mode
abbrev aU:=ND→List AV→aa→Option (AV×aa)

def iv (op:BinOp) (k:IntKind) (x y:Int):Option AV :=
 match op with
 | .add=>some (.int k (k.wrap (x+y)))
 | .sub=>some (.int k (k.wrap (x-y)))
 | .mul=>some (.int k (k.wrap (x*y)))
 | .quo=>if y=0 then none else some (.int k (k.wrap (x.tdiv y)))
 | .rem=>if y=0 then none else some (.int k (x.tmod y))
 | .and=>some (.int k (k.wrap (BitVec.ofInt k.bits x &&& BitVec.ofInt k.bits y).toNat))
 | .or=>some (.int k (k.wrap (BitVec.ofInt k.bits x ||| BitVec.ofInt k.bits y).toNat))
 | .xor=>some (.int k (k.wrap (BitVec.ofInt k.bits x ^^^ BitVec.ofInt k.bits y).toNat))
 | .andNot=>some (.int k (k.wrap (BitVec.ofInt k.bits x &&& ~~~(BitVec.ofInt k.bits y)).toNat))
 | .eql=>some (.bool (x == y))
 | .neq=>some (.bool (x != y))
 | .lss=>some (.bool (x<y))
 | .leq=>some (.bool (x≤y))
 | .gtr=>some (.bool (x > y))
 | .geq=>some (.bool (x≥y))
 | _=>none

def gm (P:Program) (g:TypeId→Option Nat) (off:Nat):List Field→Option Nat
 | []=>some off
 | f::fs=>if f.name != "_" && Nat.beq f.offset off then (match g f.type with
   | some s=>gm P g (off+s) fs
   | none=>none) else none
def cC (P:Program):Nat→TypeId→Option Nat
 | 0,_=>none
 | n + 1,t=>match P.underlying t with
   | some (.int _)=>if br P t=some 1 then some 1 else none
   | some (.array len e)=>match cC P n e with
     | some s=>if br P t=some (len*s) then some (len*s) else none
     | none=>none
   | some (.struct fs)=>if P.stoodInHeld t then none else match gm P (cC P n) 0 fs.toList with
     | some s=>if br P t=some s then some s else none
     | none=>none
   | _=>none

def fx:List Int→List Int→Bool
 | [],[]=>true
 | x::a,y::b=>(x == y) && fx a b
 | _,_=>false

def allEq (z z':Nat→Int):Nat→Bool
 | 0=>true
 | n+1=>allEq z z' n && (z n == z' n)
def K8 (P:Program) (t:TypeId) (r s:Row):Option Bool :=
 match r.ints,s.ints with
 | some (k,z),some (k',z')=>if k=k'∧cC P 20 t=some r.len∧fA P t=some true∧r.len=s.len then some (allEq z z' r.len) else none
 | _,_=>none
def Ax (P:Program) (t:TypeId) (x y:AV):Option Bool :=
 match x,y with
 | .bool a,.bool b=>(match P.underlying t with | some .bool=>some (a == b) | _=>none)
 | .nils,.nils | .nils,.slcT .. | .nils,.slc .. | .slcT ..,.nils | .slc ..,.nils =>
   (match P.underlying t with
   | some (.slice _)=>(match x,y with
     | .nils,.nils=>some true
     | .nils,.slcT _ _ _ n _=>if 0<n then some false else none
     | .slcT _ _ _ n _,.nils=>if 0<n then some false else none
     | _,_=>some false)
   | _=>none)
 | .nilp,.nilp | .nilp,.ptr .. | .nilp,.ptrT .. | .ptr ..,.nilp | .ptrT ..,.nilp =>
   (match P.underlying t with
   | some (.pointer _)=>some (match x,y with | .nilp,.nilp=>true | _,_=>false)
   | _=>none)
 | .agg (.I k a),.agg (.I k' b)=>if k=k'∧cC P 20 t=some a.length∧fA P t=some true∧a.length=b.length then some (fx a b) else none
 | .agg (.M l),.agg s=>K8 P t (.M l) s
 | .agg (.I k a),.agg (.M l)=>K8 P t (.I k a) (.M l)
 | _,_=>none

def kn (P:Program) (op:BinOp) (t:TypeId) (x y:AV):Option AV :=
 match op,x,y with
 | .shl,.int k a,.int _ b=>if b<0 then none else some (.int k (k.wrap (a*2 ^ (min b.toNat k.bits))))
 | .shr,.int k a,.int _ b=>if b<0 then none else some (.int k (a.fdiv (2 ^ (min b.toNat k.bits))))
 | op,.int k a,.int k' b=>if k=k' then iv op k a b else none
 | .eql,x,y=>(Ax P t x y).map .bool
 | .neq,x,y=>(Ax P t x y).map fun b=>.bool (!b)
 | _,_,_=>none

def Ny (op:UnOp) (x:AV):Option AV :=
 match op,x with
 | .not,.bool b=>some (.bool !b)
 | .neg,.int k n=>some (.int k (k.wrap (0-n)))
 | _,_=>none

def oF {α:Type} (l:List α):Nat→List α
 | 0=>[]
 | n+1=>l++oF l n
def ev (z:Row) (n:Nat):Row :=
 match z with
 | .I k l=>.I k (oF l n)
 | z=>.G (oF z.toList n)
def EZ (l:List AV) (n:Nat):Row :=
 match l with
 | [v]=>if ig v then .F (fun _=>v) n else .G (oF l n)
 | l=>.G (oF l n)
def dR (z:Row) (n:Nat):Row :=
 match z with
 | .I k l=>if ym l then .M [.arr k (fun _=>0) (n*l.length)] else .I k (oF l n)
 | z=>EZ z.toList n
def jC (r:Row):Row :=
 match r with
 | .I k l=>if Nat.ble 8 l.length then .M [.arr k (NN l) l.length] else .I k l
 | .G l=>if (iz l.length l).length == l.length then .G l else .M (iz l.length l)
 | r=>r
def uU (z:Nat→Int) (off:Nat) (z':Nat→Int) (n:Nat):Nat→Int:=fun i=>if off≤i∧i<off+n then z' (i-off) else z i
def zS:List aM→Nat→Nat→List aM→Option (List aM)
 | [],_,_,_=>none
 | .one v::r,o+1,n,q=>(zS r o n q).map (.one v::·)
 | .one _::_,0,_,_=>none
 | .arr k z m::r,o,n,q=>if Nat.beq o 0 && Nat.beq m n then some (q++r) else if Nat.ble m o then (zS r (o-m) n q).map (.arr k z m::·) else none
def I7 (q:Row):Option (List aM) :=
 match jC q with
 | .M l=>some l
 | _=>none
def xL (l:List aM) (off:Nat) (q:Row):Row :=
 if Nat.ble 9 q.len then (match I7 q with
  | some qs=>if Nat.beq off 0 && Nat.beq (aD l) q.len then .M qs else (match zS l off q.len qs with
    | some l'=>.M l'
    | none=>(Row.M l).cN off q.toList)
  | none=>(Row.M l).cN off q.toList)
 else (Row.M l).cN off q.toList
def j7 (r:Row) (off:Nat) (q:Row):Row :=
 match r with
 | .M l=>(match l with
   | [.arr k z m]=>(match q with
     | .M [.arr k' z' n]=>if k'=k then .M [.arr k (uU z off z' n) m] else xL l off q
     | _=>xL l off q)
   | _=>xL l off q)
 | r=>r.cN off q.toList
def rI:AV→Bool
 | .slcT none (.M [.arr _ _ _]) _ _ _=>true
 | .slcT none (.I _ _) _ _ _=>true
 | _=>false
def rY (sy:Bool) (r:Row):Row :=
 match r with
 | .I k l=>if sy then .M [.arr k (fun j=>l.getD j 0) l.length] else .I k l
 | .G [v]=>if sy && rI v then .F (fun _=>nJ v) 1 else .G [v]
 | r=>r
def ti (place:Nat→Option (Nat×Nat)) (r:Row):List (Nat×AV)→Option Row
 | []=>some r
 | (i,v)::rest=>match place i with
   | none=>none
   | some (off,size)=>match v.row with
     | some q=>if q.len=size∧off+q.len≤r.len then ti place (r.cN off q.toList) rest else none
     | none=>none

def iB (P:Program) (t:TypeId) (r:Row) (off:Nat):Option AV :=
 match fA P t,br P t with
 | some true,some n=>if off+n≤r.len then some (.agg (r.cut off n)) else none
 | some false,_=>if off<r.len then some (r.get off) else none
 | _,_=>none

def Q6 (s:Option Nat) (v:AV):AV :=
 match s with
 | none=>v
 | some k=>gC k v

def mJ (P:Program) (H:aa) (t:TypeId) (a:AV):Option AV :=
 match a with
 | .ptr d i v off=>match dp H d i v with
   | some r=>(iB P t r off).map (gC d)
   | none=>none
 | .ptrT s r off=>(iB P t r off).map (Q6 s)
 | _=>none

def gy (P:Program) (H:aa) (t:TypeId) (a x:AV):Option Delta :=
 match a with
 | .ptr d i v off =>
   if az H d then none else
   match dp H d i v,br P t,x.row with
   | some r,some n,some q =>
     if q.len=n∧off+n≤r.len then
      match d,x with
      | d+1,.slc 0 j w o sz len cap=>if az H 0 then none else match dp H 0 j w with
        | some q=>some (.heap (bC (dq (cI H 0 j) (d+1) i (v,.row (r.set off (.slc 0 (ah H (d+1)) 0 o sz len cap)))) (d+1) (.row (jG (d+1) q))))
        | none=>none
      | _,_=>some (.set d i (v,.row (j7 r off (jG d q))))
     else none
   | _,_,_=>none
 | _=>none

def lD (P:Program):List Field→Option (List (Nat×Nat))
 | []=>some []
 | f::fs=>match br P f.type,lD P fs with
   | some n,some l=>some ((f.offset,n)::l)
   | _,_=>none

def wW (P:Program) (sy:Bool) (t:TypeId) (parts:List (Nat×AV)):Option AV :=
 match cO P t,P.underlying t with
 | some (.agg z),some (.struct fs)=>match lD P fs.toList with
   | some l=>(ti (fun i=>l[i]?) (if sy then jC z else z) parts).map .agg
   | none=>none
 | some (.agg z),some (.array _ e)=>match br P e with
   | some n=>(ti (fun i=>some (i*n,n)) (if sy then jC z else z) parts).map .agg
   | none=>none
 | _,_=>none

def kT (a:AV) (n:Nat):Option AV :=
 match a with
 | .ptr d i v off=>some (.ptr d i v (off+n))
 | .ptrT s r off=>some (.ptrT s r (off+n))
 | _=>none

def gL (P:Program) (t:TypeId) (a:AV) (f:Nat):Option AV :=
 match P.underlying t with
 | some (.struct fs)=>match fs[f]? with
   | some g=>match br P g.type with
     | some (_+1)=>kT a g.offset
     | _=>none
   | none=>none
 | _=>none

def fQ (P:Program) (t:TypeId) (x:AV) (i:Int):Option AV :=
 match P.underlying t,x with
 | some (.array n e),x=>match br P e with
   | some z=>if 0≤i∧i<n then kT x (i.toNat*z) else none
   | none=>none
 | some (.slice e),.slc d j v off sz len _ =>
   if 0≤i∧i<len∧br P e=some sz then some (.ptr d j v (off+i.toNat*sz)) else none
 | some (.slice e),.slcT s r sz len _ =>
   if 0≤i∧i<len∧br P e=some sz then some (.ptrT s r (i.toNat*sz)) else none
 | _,_=>none

def qI (P:Program) (t:TypeId) (x:AV) (i:Int):Option AV :=
 match P.underlying t,x with
 | some (.array n e),.agg r=>match br P e with
   | some z=>if 0≤i∧i<n then iB P e r (i.toNat*z) else none
   | none=>none
 | some .string,.str s=>if 0≤i then (match s[i.toNat]? with
   | some b=>some (.int .u8 b.toNat)
   | none=>none) else none
 | _,_=>none

def th (P:Program) (t:TypeId) (x:AV) (f:Nat):Option AV :=
 match P.underlying t,x with
 | some (.struct fs),.agg r=>match fs[f]? with
   | some g=>iB P g.type r g.offset
   | none=>none
 | _,_=>none

def bound (o:Option AV) (dflt top:Nat):Option Nat :=
 match o with
 | none=>some dflt
 | some (.int _ i)=>if 0≤i∧i≤top then some i.toNat else none
 | some _=>none

def eM (lo hi mx:Option AV) (len:Nat):Option (Nat×Nat×Option Nat) :=
 match mx with
 | none=>match bound hi len len with
   | some h=>match bound lo 0 h with
     | some l=>some (l,h,none)
     | none=>none
   | none=>none
 | some a=>match bound (some a) 0 len with
   | some m=>if hi.isSome then (match bound hi len m with
     | some h=>match bound lo 0 h with
       | some l=>some (l,h,some m)
       | none=>none
     | none=>none) else none
   | none=>none

def ra (P:Program) (t:TypeId) (x:AV) (lo hi mx:Option AV):Option AV :=
 match P.underlying t,x with
 | some (.slice e),.slc d j v off sz len cap =>
   match eM lo hi mx len with
   | some (l,h,mm)=>if br P e=some sz then
      some (.slc d j v (off+l*sz) sz (h-l) (match mm with | none=>cap.map (· - l) | some m=>some (m-l))) else none
   | none=>none
 | some (.slice e),.slcT s r sz len full =>
   match eM lo hi mx len with
   | some (l,h,mm)=>if br P e=some sz∧l*sz+(h-l)*sz≤r.len then
      some (.slcT s (r.sub (l*sz) ((h-l)*sz)) sz (h-l) (match mm with | none=>full && Nat.beq h len | some m=>Nat.beq h m)) else none
   | none=>none
 | some (.slice e),.nils =>
   match eM lo hi mx 0,br P e with
   | some _,some _=>some .nils
   | _,_=>none
 | some (.array n e),.ptr d j v off =>
   match eM lo hi mx n with
   | some (l,h,mm)=>match br P e with
     | some sz=>some (.slc d j v (off+l*sz) sz (h-l) (match mm with | none=>some (n-l) | some m=>some (m-l)))
     | none=>none
   | none=>none
 | _,_=>none

def vh (P:Program) (H:aa) (t:TypeId) (x:AV):Option Int :=
 match P.underlying t,x with
 | some (.array n _),_=>some n
 | some (.slice _),.nils=>some 0
 | some (.slice _),.slc _ _ _ _ _ len _=>some len
 | some (.slice _),.slcT _ _ _ len _=>some len
 | some (.map _ _),.nilm=>some 0
 | some (.map _ _),.map d i=>match au H d i with
   | (0,.map es)=>some es.length
   | (0,.fmap _ _ _ c)=>some c
   | _=>none
 | _,_=>none

def JE (P:Program) (t:TypeId) (x:AV):Option Int :=
 match P.underlying t,x with
 | some (.slice _),.nils=>some 0
 | some (.slice _),.slc _ _ _ _ _ _ (some c)=>some c
 | _,_=>none

def eT (H:aa) (sz n:Nat) (x:AV):Option Row :=
 match x with
 | .nils=>if n=0 then some (.G []) else none
 | .slc d i v off sz' len _=>match dp H d i v with
   | some r=>if sz'=sz∧n≤len∧off+n*sz≤r.len then some (Bu d (r.sub off (n*sz))) else none
   | none=>none
 | .slcT s r sz' len _=>if sz'=sz∧n≤len∧n*sz≤r.len then some (match s with | none=>r.sub 0 (n*sz) | some k=>Bu k (r.sub 0 (n*sz))) else none
 | _=>none
def oh:AV→Option Nat
 | .nils=>some 0
 | .slc _ _ _ _ _ len _=>some len
 | .slcT _ _ _ len _=>some len
 | _=>none

def room:Nat:=2 ^ 46

def Ep (P:Program) (sy:Bool) (nx:Nat) (e:TypeId) (s x:AV):Option (AV×Delta) :=
 match P.info? e,s,x with
 | some inf,.nils,.int _ k =>
   if 0≤k∧k.toNat≤room∧k.toNat*inf.bytes≤room∧0<inf.size∧((cO P e).bind AV.row).map Row.len=some inf.size then
    (if k=0 then some (.nils,.bf) else some (.slc 0 nx 0 0 inf.size k.toNat none,.push (.row (rY sy (.I .i64 [])))))
   else none
 | _,_,_=>none
def o6      (P:Program) (sy:Bool) (H:aa) (nx:Nat) (t u:TypeId) (s x:AV):Option (AV×Delta) :=
 match P.underlying t,P.underlying u with
 | some (.slice e),some (.int _)=>Ep P sy nx e s x
 | some (.slice e),some (.slice _) =>
   match P.info? e,oh s,oh x with
   | some inf,some m,some n =>
     if n=0 then (match s,x with
      | .nils,_=>some (s,.bf)
      | .slc ..,_=>some (s,.bf)
      | .slcT ..,_=>some (s,.bf)
      | _,_=>none)
     else if (m+n)*inf.bytes≤room∧(m+n)≤room∧0<inf.bytes∧((cO P e).bind AV.row).map Row.len=some inf.size then
      match eT H inf.size n x with
      | none=>none
      | some new =>
        match s with
        | .nils=>some (.slc 0 nx 0 0 inf.size n none,.push (.row (rY sy new)))
        | .slcT _ _ _ _ true=>match eT H inf.size m s with
          | some old=>some (.slc 0 nx 0 0 inf.size (m+n) none,.push (.row (rY sy (old.app new))))
          | none=>none
        | .slc d i v off sz _ (some c) =>
          if c<m+n then
           match eT H inf.size m s with
           | some old=>some (.slc 0 nx 0 0 inf.size (m+n) none,.push (.row (rY sy (old.app new))))
           | none=>none
          else if az H d then none else
           match dp H d i v with
           | some r=>if sz=inf.size∧off+(m+n)*sz≤r.len then
              some (.slc d i v off sz (m+n) (some c),.set d i (v,.row (r.cN (off+m*sz) (jG d new).toList)))
             else none
           | none=>none
        | .slc d i v off sz _ none =>
          if az H d then none else
          match dp H d i v with
          | some r=>if sz=inf.size∧off+m*sz=r.len then
             some (.slc d i (v+1) 0 sz (m+n) none,.set d i (v+1,.row ((r.sub off (m*sz)).app (jG d new))))
            else none
          | none=>none
        | _=>none
     else none
   | _,_,_=>none
 | _,_=>none

def copyV (P:Program) (H:aa) (t:TypeId) (s x:AV):Option (AV×Delta) :=
 match P.underlying t with
 | some (.slice e) =>
   match br P e,oh s,oh x with
   | some z,some m,some n =>
     match eT H z (min n m) x with
     | none=>none
     | some new =>
       match s with
       | .nils=>some (.int .i64 (min n m:Nat),.bf)
       | .slc d i v off sz _ _ =>
         if az H d then none else
         match dp H d i v with
         | some r=>if sz=z∧off+(min n m)*sz≤r.len then
            some (.int .i64 (min n m:Nat),.set d i (v,.row (j7 r off (jG d new))))
           else none
         | none=>none
       | _=>none
   | _,_,_=>none
 | _=>none

def sX (P:Program) (H:aa) (t:TypeId) (s:AV):Option (AV×Delta) :=
 match P.underlying t,s with
 | some (.slice _),.nils=>some (.tup [],.bf)
 | some (.slice e),.slc d i v off sz len _ =>
   if az H d then none else
   match (cO P e).bind AV.row,dp H d i v with
   | some z,some r=>if z.len=sz∧br P e=some sz∧off+len*sz≤r.len then
      some (.tup [],if len=0 then .bf else .set d i (v,.row (if y9 r then j7 r off (dR z len) else r.cN off (ev z len).toList)))
     else none
   | _,_=>none
 | _,_=>none

def fa (mx:Bool) (k:IntKind) (x:Int):List AV→Option AV
 | []=>some (.int k x)
 | .int k' y::r=>if k=k' then fa mx k (if mx then (if y > x then y else x) else (if y<x then y else x)) r else none
 | _=>none
def ov (mx:Bool):List AV→Option AV
 | .int k x::r=>fa mx k x r
 | _=>none

def jd (P:Program) (sy:Bool) (nx:Nat) (t:TypeId) (l c:AV):Option (AV×Delta) :=
 match P.underlying t,l,c with
 | some (.slice e),.int _ l,.int _ c =>
   match P.info? e,(cO P e).bind AV.row with
   | some inf,some z =>
     if 0≤l∧l≤c∧c.toNat*inf.bytes≤room∧c.toNat≤room∧z.len=inf.size then
      some (.slc 0 nx 0 0 inf.size l.toNat (some c.toNat),.push (.row (if sy then dR z c.toNat else ev z c.toNat)))
     else none
   | _,_=>none
 | _,_,_=>none

def jF (P:Program) (nx:Nat) (t:TypeId) (len:Nat) (parts:List (Nat×AV)):Option (AV×Delta) :=
 match P.underlying t with
 | some (.slice e)=>match br P e,(cO P e).bind AV.row with
   | some z,some zv =>
     if len*z≤2 ^ 24∧zv.len=z then
      (ti (fun i=>some (i*z,z)) (ev zv len) parts).map fun r=>(.slc 0 nx 0 0 z len (some len),.push (.row r))
     else none
   | _,_=>none
 | _=>none

def pK (x y:AV):Option Bool :=
 match x,y with
 | .int k a,.int k' b=>if k=k' then some (a == b) else none
 | .agg (.I k a),.agg (.I k' b)=>if k=k'∧a.length=b.length then some (fx a b) else none
 | _,_=>none
def gl (key:AV):List (AV×AV)→Nat→Option (Option Nat)
 | [],_=>some none
 | (k,_)::r,i=>match pK key k with
   | some true=>some (some i)
   | some false=>gl key r (i+1)
   | none=>none
def jW (P:Program) (t:TypeId) (x:AV):Bool :=
 match P.underlying t,x with
 | some (.int _),.int _ _=>true
 | some (.array _ _),.agg (.I _ l)=>cC P 20 t == some l.length
 | some (.struct _),.agg (.I _ l)=>cC P 20 t == some l.length
 | _,_=>false
def vI (H:aa) (m:AV):Option (Nat×List (AV×AV)) :=
 match m with
 | .nilm=>some (0,[])
 | .map d i=>match au H d i with
   | (0,.map es)=>some (d,es)
   | _=>none
 | _=>none
def oB:List (AV×AV)→Nat→AV
 | [],_=>.undef
 | e::_,0=>e.2
 | _::r,i+1=>oB r i
def oJ:List (AV×AV)→Nat→AV×AV→List (AV×AV)
 | [],_,_=>[]
 | _::r,0,x=>x::r
 | e::r,i+1,x=>e::oJ r i x
def nZ:List (AV×AV)→Nat→List (AV×AV)
 | [],_=>[]
 | _::r,0=>r
 | e::r,i+1=>e::nZ r i
def vO (H:aa) (m:AV):Option (KK×(List Int→Bool)×(List Int→Int)×Nat) :=
 match m with
 | .map d i=>match au H d i with
   | (0,.fmap q h g c)=>some (q,h,g,c)
   | _=>none
 | _=>none
def vg:KK→AV→Option (List Int)
 | .num k,.int k' n=>if k=k' then some [n] else none
 | .str m,.agg (.I .i64 l)=>if Nat.beq l.length m then some l else none
 | _,_=>none
def LR:AV→Option KK
 | .int k _=>some (.num k)
 | .agg (.I .i64 l)=>some (.str l.length)
 | _=>none
def zI:AV→Option Int
 | .int .i64 n=>some n
 | _=>none
def dE (h:List Int→Bool) (n:List Int) (b:Bool):List Int→Bool:=fun i=>if i=n then b else h i
def fF (g:List Int→Int) (n:List Int) (x:Int):List Int→Int:=fun i=>if i=n then x else g i
def o9 (b:Bool) (c:Nat):Nat:=cond b c (c+1)
def yr (b:Bool) (c:Nat):Nat:=cond b (c-1) c
def tT (P:Program) (t:TypeId):aj :=
 match P.underlying t with
 | some (.map kt et)=>match (cO P kt).bind LR,(cO P et).bind zI with
   | some q,some _=>.fmap q (fun _=>false) (fun _=>0) 0
   | _,_=>.map []
 | _=>.map []
def pN (P:Program) (H:aa) (t:TypeId) (m key:AV) (ok:Bool):Option AV :=
 match P.underlying t with
 | some (.map kt et) =>
   if jW P kt key then
    match vO H m with
    | some (q,h,g,_)=>match vg q key,(cO P et).bind zI with
      | some n,some 0=>some (if ok then .tup [.int .i64 (g n),.bool (h n)] else .int .i64 (g n))
      | _,_=>none
    | none=>match vI H m,cO P et with
    | some (d,es),some z=>match gl key es 0 with
      | some (some i)=>some (if ok then .tup [gC d (oB es i),.bool true] else gC d (oB es i))
      | some none=>some (if ok then .tup [z,.bool false] else z)
      | none=>none
    | _,_=>none
   else none
 | _=>none
def jR (P:Program) (H:aa) (t:TypeId) (m key x:AV):Option Delta :=
 match P.underlying t,m with
 | some (.map kt _),.map d i =>
   if az H d then none else
   if jW P kt key then
    match au H d i with
    | (0,.fmap q h g c)=>match vg q key,zI x with
      | some n,some y=>some (.set d i (0,.fmap q (dE h n true) (fF g n y) (o9 (h n) c)))
      | _,_=>none
    | (0,.map es)=>match gl key es 0 with
      | some (some j)=>some (.set d i (0,.map (oJ es j (key,Ow d x))))
      | some none=>some (.set d i (0,.map (es++[(key,Ow d x)])))
      | none=>none
    | _=>none
   else none
 | _,_=>none
def pe (P:Program) (H:aa) (t:TypeId) (m key:AV):Option (AV×Delta) :=
 match P.underlying t,m with
 | some (.map kt _),.map d i =>
   if az H d then none else
   if jW P kt key then
    match au H d i with
    | (0,.fmap q h g c)=>match vg q key with
      | some n=>some (.tup [],.set d i (0,.fmap q (dE h n false) (fF g n 0) (yr (h n) c)))
      | none=>none
    | (0,.map es)=>match gl key es 0 with
      | some (some j)=>some (.tup [],.set d i (0,.map (nZ es j)))
      | some none=>some (.tup [],.set d i (0,.map es))
      | none=>none
    | _=>none
   else none
 | _,_=>none

def ed (fr:av):List (Nat×Operand)→List (Nat×AV)
 | []=>[]
 | (i,x)::r=>(i,bO fr x)::ed fr r
def j6 (fr:av):List Operand→List AV
 | []=>[]
 | x::r=>bO fr x::j6 fr r

def l7 {α:Type} (call:aU) (a b:α):α :=
 match call .mode [] [] with
 | some _=>a
 | none=>b
def fU (P:Program) (call:aU) (fr:av) (H:aa) (nx:Nat) (c:Call):Option (AV×Delta) :=
 match c.callee with
 | .value f=>match bO fr f with
   | .fn (.func g) a b=>(call (.fn g) (a++(j6 fr c.args.toList++b)) H).map fun (v,H)=>(v,.heap H)
   | .yld d i=>(call (.round d i) (j6 fr c.args.toList) H).map fun (v,H)=>(v,.heap H)
   | _=>none
 | .builtin .len=>match c.args.toList,c.argTypes.toList with
   | x::_,t::_=>(vh P H t (bO fr x)).map fun n=>(.int .i64 n,.bf)
   | _,_=>none
 | .builtin .cap=>match c.args.toList,c.argTypes.toList with
   | x::_,t::_=>(JE P t (bO fr x)).map fun n=>(.int .i64 n,.bf)
   | _,_=>none
 | .builtin .append=>match c.args.toList,c.argTypes.toList with
   | s::x::_,t::u::_=>o6 P (l7 call true false) H nx t u (bO fr s) (bO fr x)
   | _,_=>none
 | .builtin .copy=>match c.args.toList,c.argTypes.toList with
   | s::x::_,t::_=>copyV P H t (bO fr s) (bO fr x)
   | _,_=>none
 | .builtin .clear=>match c.args.toList,c.argTypes.toList with
   | s::_,t::_=>sX P H t (bO fr s)
   | _,_=>none
 | .builtin .delete=>match c.args.toList,c.argTypes.toList with
   | m::k::_,t::_=>pe P H t (bO fr m) (bO fr k)
   | _,_=>none
 | .builtin .min=>(ov false (j6 fr c.args.toList)).map fun v=>(v,.bf)
 | .builtin .max=>(ov true (j6 fr c.args.toList)).map fun v=>(v,.bf)
 | _=>none

def kp (o:Option AV):Option (AV×Delta):=o.map fun v=>(v,.bf)

def evalOp (P:Program) (call:aU) (fr:av) (H:aa) (nx:Nat) (o:Oper):Option (AV×Delta) :=
 match o.op with
 | .move x | .assign x=>some (bO fr x,.bf)
 | .pick c a b=>match bO fr c with
   | .bool t=>some (if t then bO fr a else bO fr b,.bf)
   | _=>none
 | .alloc t=>((cO P t).bind AV.row).map fun z=>(.ptr 0 nx 0 0,.push (.row (l7 call (jC z) z)))
 | .box _ x=>(bO fr x).row.map fun r=>(.ptr 0 nx 0 0,.push (.row (l7 call (jC r) r)))
 | .build t parts=>kp (wW P (l7 call true false) t (ed fr parts.toList))
 | .buildSlice t len parts=>jF P nx t len (ed fr parts.toList)
 | .load t a=>kp (mJ P H t (bO fr a))
 | .store t a x=>(gy P H t (bO fr a) (bO fr x)).map fun δ=>(.tup [],δ)
 | .nilCheck x=>match bO fr x with
   | .ptr d i v off=>some (.ptr d i v off,.bf)
   | .ptrT s r off=>some (.ptrT s r off,.bf)
   | _=>none
 | .binOp op t x y _=>kp (kn P op t (bO fr x) (bO fr y))
 | .unOp op _ x=>kp (Ny op (bO fr x))
 | .convert src dst x=>match P.underlying src,P.underlying dst,bO fr x with
   | some _,some (.int k),.int _ n=>some (.int k (k.wrap n),.bf)
   | _,_,_=>none
 | .makeFunc fn first cap=>match fn with
   | .func g=>some (.fn (.func g) (j6 fr first.toList) (j6 fr cap.toList),.bf)
   | _=>none
 | .makeSlice t l c=>jd P (l7 call true false) nx t (bO fr l) (bO fr c)
 | .slice t x lo hi mx=>kp (ra P t (bO fr x) (lo.map (bO fr)) (hi.map (bO fr)) (mx.map (bO fr)))
 | .fieldAddr t x f=>kp (gL P t (bO fr x) f)
 | .field t x f=>kp (th P t (bO fr x) f)
 | .indexAddr t x i=>match bO fr i with
   | .int _ n=>kp (fQ P t (bO fr x) n)
   | _=>none
 | .index t x i=>match bO fr i with
   | .int _ n=>kp (qI P t (bO fr x) n)
   | _=>none
 | .makeMap t none=>some (.map 0 nx,.push (l7 call (tT P t) (.map [])))
 | .lookup t m k ok=>kp (pN P H t (bO fr m) (bO fr k) ok)
 | .mapUpdate t m k x | .insert t m k x=>(jR P H t (bO fr m) (bO fr k) (bO fr x)).map fun δ=>(.tup [],δ)
 | .extract t ix=>match bO fr t with
   | .tup l=>match l[ix]? with
     | some v=>some (v,.bf)
     | none=>none
   | _=>none
 | .call c=>fU P call fr H nx c
 | _=>none

inductive Want where
 | run | skip | lost
def ik (ops:Array Oper) (fr:av) (o:Oper):Want :=
 match o.guard with
 | none=>.run
 | some (j,want)=>match (ops[j]?).bind (·.dst) with
   | none=>.lost
   | some d=>match bw fr d with
     | .bool b=>if b == want then .run else .skip
     | .tup _=>.skip
     | _=>.lost

def dz (nt:Nat) (fr:av) (dst:Option Tmp) (v:AV):av :=
 match dst with
 | some d=>if Nat.blt d nt then uW fr d v else fr
 | none=>fr

def dQ (P:Program) (nt:Nat) (call:aU) (ops:Array Oper):List Oper→av→aa→Option (av×aa)
 | [],fr,H=>some (fr,H)
 | o :: r,fr,H=>match ik ops fr o with
   | .lost=>none
   | .skip=>dQ P nt call ops r (dz nt fr o.dst (.tup [])) H
   | .run=>match evalOp P call fr H (ar H) o with
     | none=>none
     | some (v,δ)=>dQ P nt call ops r (dz nt fr o.dst v) (δ.on H)

inductive Touch where
 | none
 | blk (d i:Nat)
 | all
structure Rec where
 ix:Nat
 reads:Touch
 writes:Option (Nat×Nat)
def cQ (fr:av) (o:Oper):Touch :=
 let at' (v:AV):Touch:=match v with
  | .ptr d i _ _=>.blk d i
  | .slc d i _ _ _ _ _=>.blk d i
  | .map d i=>.blk d i
  | _=>.none
 match o.op with
 | .load _ a=>at' (bO fr a)
 | .store _ a _=>at' (bO fr a)
 | .lookup _ m _ _=>at' (bO fr m)
 | .mapUpdate _ m _ _ | .insert _ m _ _=>at' (bO fr m)
 | .call c=>match c.callee with
   | .builtin .len=>match c.args.toList with
     | x::_=>match bO fr x with | .map d i=>.blk d i | _=>.none
     | _=>.all
   | .builtin .min | .builtin .max=>.none
   | _=>.all
 | _=>.none
def di (H:aa) (bef:Nat):List Rec→aa
 | []=>H
 | r::l=>match r.writes with
   | some (d,i)=>if bef.testBit r.ix then di H bef l else di (cI H d i) bef l
   | none=>di H bef l
def jf (bef:Nat) (d i:Nat):List Rec→Bool
 | []=>true
 | r::l=>(bef.testBit r.ix || (match r.reads with
   | .none=>true
   | .blk e j=>!(Nat.beq e d && Nat.beq j i)
   | .all=>false)) && jf bef d i l

def gv (o:Oper):Bool :=
 match o.op with
 | .alloc _ | .box _ _ | .buildSlice _ _ _ | .makeSlice _ _ _ | .makeMap _ _=>true
 | .call c=>match c.callee with
   | .builtin .append=>true
   | _=>false
 | _=>false
def cM:List Oper→Nat
 | []=>0
 | o::r=>if gv o then cM r+1 else cM r
def kD:aa→Nat→aa
 | [],_=>[]
 | l::r,k=>{ l with bs:=l.bs++List.replicate k (0,.dead) } :: r
def eX:aj→Bool
 | .dead=>true
 | _=>false
def pJ:Nat×aj→Bool
 | (0,.dead)=>true
 | _=>false
def fj (o:Oper):Bool :=
 match o.op with
 | .call c=>match c.callee with
   | .value _=>true
   | _=>false
 | _=>false
def r5 (H:aa):Option (Nat×Nat×(Nat×aj))→aa
 | none=>H
 | some (d,i,b)=>dq H d i b
structure uK where
 v:AV
 rd:Touch
 wr:Option (Nat×Nat×(Nat×aj))
def eV (P:Program) (call:aU) (ops:Array Oper) (bef:Nat) (fr:av) (H:aa) (nx:Nat) (recs:List Rec) (o:Oper):Option uK :=
 match ik ops fr o with
 | .lost=>none
 | .skip=>some ⟨.tup [],.none,none⟩
 | .run =>
   if fj o then match evalOp P call fr (aA (di H bef recs)) nx o with
    | some (v,_)=>some ⟨v,.all,none⟩
    | none=>none
   else match evalOp P call fr (di H bef recs) nx o with
    | some (v,.bf)=>some ⟨v,cQ fr o,none⟩
    | some (v,.push b)=>if gv o && !eX b && pJ (au H 0 nx) && !az H 0 then some ⟨v,cQ fr o,some (0,nx,(0,b))⟩ else none
    | some (v,.set d i b)=>if !eX b.2 && (Nat.beq b.1 (au H d i).1 || Nat.beq b.1 (Nat.succ (au H d i).1)) && !eX (au (di H bef recs) d i).2 && jf bef d i recs then some ⟨v,cQ fr o,some (d,i,b)⟩ else none
    | _=>none

def fI (P:Program) (nt:Nat) (call:aU) (ops:Array Oper) (befs:Array Nat):Nat→List Oper→av→aa→Nat→List Rec→Option (av×aa)
 | _,[],fr,H,_,_=>some (fr,H)
 | j,o::r,fr,H,nx,recs=>match eV P call ops (befs.getD j 0) fr H nx recs o with
   | some e=>fI P nt call ops befs (j+1) r (dz nt fr o.dst e.v) (r5 H e.wr) (if gv o then nx+1 else nx) (⟨j,e.rd,e.wr.map fun x=>(x.1,x.2.1)⟩::recs)
   | none=>none

def ft (ops:Array Oper) (befs:Array Nat):Bool :=
 ops.toList.zipIdx.all fun (o,j)=>Nat.blt (befs.getD j 0) (2 ^ j) &&
  ops.toList.zipIdx.all fun (q,i) =>
   Nat.beq i j || (match q.dst with
   | none=>true
   | some d=>(o.dst != some d) && (!(o.looksAt ops).contains d || (befs.getD j 0).testBit i || (befs.getD i 0).testBit j))

inductive Ex where
 | normal | exit (id:Nat) | goto (l:Nat) | ret

def B9:Option Nat→Bool
 | some 0=>true
 | _=>false
def Di:AV→Bool
 | .int _ _=>true
 | .bool _=>true
 | .nils=>true
 | .slcT none _ _ _ _=>true
 | .ptrT none _ _=>true
 | _=>false
def Lo:Row→Bool
 | .I _ _=>true
 | .F _ _=>true
 | .G l=>l.all Di
 | .M l=>gb l
def l6 (n:Nat):AV→Bool
 | .ptr d i _ _=>Nat.beq d 0 && Nat.ble n i
 | .slc d i _ _ _ _ _=>Nat.beq d 0 && Nat.ble n i
 | .map d i=>Nat.beq d 0 && Nat.ble n i
 | .yld d i=>Nat.beq d 0 && Nat.ble n i
 | .ptrT s r _=>B9 s && !Lo r
 | .slcT s _ _ _ _=>B9 s
 | .agg (.G _)=>true
 | .agg (.M l)=>!gb l
 | .fn _ _ _=>true
 | .tup (_::_)=>true
 | _=>false
def anyM (f:AV→Bool):List aM→Bool
 | []=>false
 | .one v::r=>f v || anyM f r
 | .arr _ _ _::r=>anyM f r
def r6 (n:Nat):AV→Bool
 | .agg (.G l)=>l.any (l6 n)
 | .agg (.M l)=>anyM (l6 n) l
 | .fn _ a b=>a.any (l6 n) || b.any (l6 n)
 | .ptrT (some 0) (.M l) _=>anyM (l6 n) l
 | v=>l6 n v
def Qh (n:Nat):Row→Bool
 | .I .. | .F ..=>false
 | .G l=>l.any (r6 n)
 | .M l=>anyM (r6 n) l
def DX (n:Nat):aj→Bool
 | .dead=>false
 | .row r=>Qh n r
 | .map es=>es.any fun e=>r6 n e.1 || r6 n e.2
 | .fmap _ _ _ _=>false
 | .loop _=>true
def cutAt (fr:av) (l:bx) (r:aa):Nat→Nat→aa
 | 0,_=>l::r
 | k+1,m=>if fr.any (fun x=>r6 m x.2) || (l.bs.take m).any (fun x=>DX m x.2) then cutAt fr l r k (m+1) else { l with bs:=l.bs.take m } :: r
def lP (n:Nat) (fr:av) (H:aa):aa :=
 match H with
 | []=>[]
 | l::r=>if Nat.ble l.bs.length n then H else cutAt fr l r 4 n

def Ia:AV→Bool
 | .ptrT (some 0) (.M l) _=>anyM (l6 0) l
 | v=>l6 0 v
def vq (h:Nat):AV→Bool
 | .ptr d i _ _=>Nat.beq d 0 && Nat.beq i h
 | .slc d i _ _ _ _ _=>Nat.beq d 0 && Nat.beq i h
 | .map d i=>Nat.beq d 0 && Nat.beq i h
 | .yld d i=>Nat.beq d 0 && Nat.beq i h
 | v=>Ia v
def qm (f:AV→Bool) (v:AV):Bool :=
 match v with
 | .agg (.G l)=>l.any f
 | .agg (.M l)=>anyM f l
 | .fn _ a b=>a.any f || b.any f
 | v=>f v
def Lc (f:AV→Bool):Row→Bool
 | .I .. | .F ..=>false
 | .G l=>l.any (qm f)
 | .M l=>anyM (qm f) l
def AB (f:AV→Bool):aj→Bool
 | .dead=>false
 | .row r=>Lc f r
 | .map _=>true
 | .fmap _ _ _ _=>false
 | .loop _=>true
def vl (a b:Nat):AV→AV
 | .ptr d i v off=>if Nat.beq d 0 && Nat.beq i a then .ptr 0 b v off else .ptr d i v off
 | .slc d i v off sz len cap=>if Nat.beq d 0 && Nat.beq i a then .slc 0 b v off sz len cap else .slc d i v off sz len cap
 | .map d i=>if Nat.beq d 0 && Nat.beq i a then .map 0 b else .map d i
 | .yld d i=>if Nat.beq d 0 && Nat.beq i a then .yld 0 b else .yld d i
 | v=>v
def nC (g:AV→AV) (v:AV):AV :=
 match v with
 | .agg (.G l)=>.agg (.G (l.map g))
 | .agg (.M l)=>.agg (.M (mapM' g l))
 | .fn f a b=>.fn f (a.map g) (b.map g)
 | v=>g v
def FC (g:AV→AV):Row→Row
 | .I k l=>.I k l
 | .F f n=>.F f n
 | .G l=>.G (l.map (nC g))
 | .M l=>.M (mapM' (nC g) l)
def qO (g:AV→AV):aj→aj
 | .row r=>.row (FC g r)
 | b=>b
def qP (g:AV→AV):av→av
 | []=>[]
 | (x,v)::r=>(x,nC g v)::qP g r
def jJ (g:AV→AV):List (Nat×aj)→List (Nat×aj)
 | []=>[]
 | (v,b)::r=>(v,qO g b)::jJ g r
def hole (fr:av) (bs:List (Nat×aj)):Nat→Nat→Option Nat
 | 0,_=>none
 | k+1,m=>if Nat.blt (m+1) bs.length then
    if fr.any (fun x=>qm (vq m) x.2) || ((bs.take m).any (fun x=>AB (vq m) x.2) || (bs.drop (m+1)).any (fun x=>AB (vq m) x.2)) then hole fr bs k (m+1) else some m
   else none
def yh (a b:Nat) (l:bx):bx:={ l with bs:=bN (jJ (vl a b) (l.bs.take a)) b ((aq l.bs a).1,qO (vl a b) (aq l.bs a).2) }
def jt (n:Nat):Nat→av→aa→av×aa
 | 0,fr,H=>(fr,H)
 | k + 1,fr,H=>match H with
   | []=>(fr,[])
   | l::r=>match hole fr l.bs 4 n with
     | none=>(fr,l::r)
     | some h=>jt n k (qP (vl (l.bs.length-1) h) fr) (lP n (qP (vl (l.bs.length-1) h) fr) (yh (l.bs.length-1) h l::r))
def tidy (n:Nat) (fr:av) (H:aa):av×aa:=jt n 4 fr (lP n fr H)

def nA (i ver:Nat) (r:Row):AV→AV
 | .ptr d j v off=>if Nat.beq d 0 && (Nat.beq j i && Nat.beq v ver) then .ptrT none r off else .ptr d j v off
 | .slc d j v off sz len cap=>if Nat.beq d 0 && (Nat.beq j i && (Nat.beq v ver && Nat.ble (off+len*sz) r.len)) then .slcT none (r.sub off (len*sz)) sz len (cap == some len) else .slc d j v off sz len cap
 | v=>v
def p8 (i:Nat):AV→Bool
 | .slc d j _ _ _ _ _=>Nat.beq d 0 && Nat.beq j i
 | _=>false
def xy:Row→Bool
 | .I _ _=>true
 | .M [.arr _ _ _]=>true
 | _=>false
def KD (f:AV→Bool):aj→Bool
 | .row r=>Lc f r
 | _=>false
def mB (i:Nat) (fr:av) (l:bx):av×bx :=
 match aq l.bs i with
 | (ver,.row r)=>if xy r && (fr.any (fun x=>qm (p8 i) x.2) || l.bs.any (fun x=>KD (p8 i) x.2)) then (qP (nA i ver r) fr,{ l with bs:=bN (jJ (nA i ver r) l.bs) i (ver,.dead) }) else (fr,l)
 | _=>(fr,l)
def ja:Nat→av→bx→av×bx
 | 0,fr,l=>(fr,l)
 | n+1,fr,l=>mB n (ja n fr l).1 (ja n fr l).2
def DE (fr:av) (H:aa):av×aa :=
 match H with
 | []=>(fr,[])
 | l::r=>if l.lock then (fr,l::r) else ((ja l.bs.length fr l).1,(ja l.bs.length fr l).2::r)
def eO:Nat→av→bx→av×bx
 | 0,fr,l=>(fr,l)
 | n+1,fr,l=>if (eO n fr l).1.any (fun x=>qm (p8 n) x.2) then eO n fr l else mB n (eO n fr l).1 (eO n fr l).2
def ve (fr:av) (H:aa):av×aa :=
 match H with
 | []=>(fr,[])
 | l::r=>if l.lock then (fr,l::r) else ((eO l.bs.length fr l).1,(eO l.bs.length fr l).2::r)
def Mb (sz:Nat):AV→AV
 | .nils=>.slcT none (.M [.arr .i64 (fun _=>0) 0]) sz 0 false
 | v=>v
def DO (sz:Nat):Nat→List AV→List AV
 | _,[]=>[]
 | 0,v::l=>Mb sz v::l
 | c+1,v::l=>v::DO sz c l
def vm (c sz:Nat):aj→aj
 | .row (.G l)=>.row (.G (DO sz c l))
 | B=>B
def mO (c sz:Nat):List (Nat×aj)→List (Nat×aj)
 | []=>[]
 | (v,B)::r=>(v,vm c sz B)::mO c sz r
def FK (k:Nat) (H:aa):aa :=
 match H with
 | []=>[]
 | l::r=>if l.lock then l::r else { l with bs:=mO (k % 8) (k / 8) l.bs } :: r
def Ck (s:Nat):av→Option Nat
 | []=>none
 | (x,v)::r=>if Nat.beq x s then (match v with
   | .slc 0 i _ _ _ _ _=>some i
   | _=>none) else Ck s r
def xw (s:Nat) (fr:av) (H:aa):av×aa :=
 match H with
 | []=>(fr,[])
 | l::r=>if l.lock then (fr,l::r) else match Ck s fr with
   | some i=>((mB i fr l).1,(mB i fr l).2::r)
   | none=>(fr,l::r)
noncomputable def mC (m:Nat) (fr:av) (H:aa):av×aa:=if ou m 4000 then ((DE (bV fr m) H).1,if Nat.beq (Nat.shiftRight m 4003) 0 then (DE (bV fr m) H).2 else FK (Nat.shiftRight m 4003) (DE (bV fr m) H).2) else if ou m 4001 then xw (Nat.shiftRight m 4003) (bV fr m) H else if ou m 4002 then (match bw (bV fr m) (Nat.shiftRight m 4003) with | .bool false=>ve (bV fr m) H | _=>(bV fr m,H)) else (bV fr m,H)

def iter (body:av→aa→Option (Ex×av×aa)) (n:Nat):Nat→av→aa→Option (Ex×av×aa)
 | 0,_,_=>none
 | fu+1,fr,H=>match body fr H with
   | some (.normal,fr,H)=>iter body n fu (tidy n fr H).1 (tidy n fr H).2
   | r=>r

structure Cx where
 P:Program
 call:aU
 fu:Nat
 fn:FuncId
 nt:Nat
 kt:Nat→Nat
 ro:Option (Nat×Nat)
def Cx.here (cx:Cx) (H:aa):Bool :=
 match cx.ro with
 | none=>true
 | some (d,i)=>match au H d i with
   | (0,.loop _)=>true
   | _=>false

def gT (fr:av) (H:aa) (cx:Cx) (params:Array Tmp) (assign body:Code):aa :=
 iZ H (.loop { state:=.ready,pending:=none,fn:=cx.fn,nt:=cx.nt,fr,params:=params.toList,assign,body })

def s8:Option Code→Option Ex
 | none=>some .normal
 | some (.exit id)=>some (.exit id)
 | some (.goto l)=>some (.goto l)
 | some .ret=>some .ret
 | _=>none

noncomputable def exec (cx:Cx):Code→av→aa→Option (Ex×av×aa)
 | .skip,fr,H=>some (.normal,fr,H)
 | .label _,fr,H=>some (.normal,fr,H)
 | .region id ops draw,fr,H =>
   match (if draw then (if ft ops (Region.before ops) then fI cx.P cx.nt cx.call ops (Region.before ops) 0 ops.toList fr (kD H (cM ops.toList)) (ar H) [] else none) else dQ cx.P cx.nt cx.call ops ops.toList fr H) with
   | some (fr,H)=>some (.normal,mC (cx.kt id) fr H)
   | none=>none
 | .seq a b,fr,H=>match exec cx a fr H with
   | some (.normal,fr,H)=>exec cx b fr H
   | r=>r
 | .cond c a b,fr,H=>match bO fr c with
   | .bool true=>exec cx a fr H
   | .bool false=>exec cx b fr H
   | _=>none
 | .block id b,fr,H=>match exec cx b fr H with
   | some (.exit id',fr,H)=>if Nat.beq id' id then some (.normal,fr,H) else some (.exit id',fr,H)
   | r=>r
 | .loop b,fr,H=>iter (exec cx b) (ar H) cx.fu fr H
 | .rangeFunc f params assign body,fr,H =>
   match bO fr f with
   | .fn (.func g) a b =>
     if !cx.here H || az H 0 then none else
     match cx.call (.fn g) (a++(.yld 0 (ar H)::b)) (gT fr H cx params assign body) with
     | some (_,H1)=>match au H1 0 (ar H) with
       | (0,.loop l) =>
         if l.state == .busy then none else
         match s8 l.pending with
         | some e=>some (e,fr,cI H1 0 (ar H))
         | none=>none
       | _=>none
     | none=>none
   | _=>none
 | .exit id,fr,H=>some (.exit id,fr,H)
 | .scope b,fr,H=>match exec cx b fr H with
   | some (.goto _,_,_)=>none
   | r=>r
 | .goto l,fr,H=>some (.goto l,fr,H)
 | .ret,fr,H=>some (.ret,fr,H)
 | .refuse _,_,_=>none

def cX   (bs:List (Nat×aj)):Nat→AV→AV
 | 0,_=>.undef
 | n + 1,v=>match v with
   | .ptr d i ver off=>match d with
     | d+1=>.ptr d i ver off
     | 0 => match aq bs i with
       | (w,.row r)=>if Nat.beq w ver then (match r with
         | .I k l=>.ptrT none (.I k l) off
         | .F f m=>.ptrT none (.F f m) off
         | .M l=>if gb l then .ptrT none (.M l) off else .ptrT (some 0) (.M (mapM' (cX bs n) l)) off
         | .G l=>.ptrT (some 0) (.G (l.map (cX bs n))) off) else .undef
       | _=>.undef
   | .slc d i ver off sz len cap=>match d with
     | d+1=>.slc d i ver off sz len cap
     | 0 => match aq bs i with
       | (w,.row r)=>if Nat.beq w ver∧off+len*sz≤r.len then (match r.sub off (len*sz) with
         | .I k l=>.slcT none (.I k l) sz len (cap == some len)
         | .F f m=>.slcT none (.F f m) sz len (cap == some len)
         | .M l=>if gb l then .slcT none (.M l) sz len (cap == some len) else .slcT (some 0) (.M (mapM' (cX bs n) l)) sz len (cap == some len)
         | .G l=>.slcT (some 0) (.G (l.map (cX bs n))) sz len (cap == some len)) else .undef
       | _=>.undef
   | .ptrT s r off=>match s with
     | none=>.ptrT none r off
     | some (s+1)=>.ptrT (some s) r off
     | some 0=>match r with
       | .G l=>.ptrT (some 0) (.G (l.map (cX bs n))) off
       | .M l=>if gb l then .ptrT none (.M l) off else .ptrT (some 0) (.M (mapM' (cX bs n) l)) off
       | r=>.ptrT none r off
   | .slcT s r sz len full=>match s with
     | none=>.slcT none r sz len full
     | some (s+1)=>.slcT (some s) r sz len full
     | some 0=>match r with
       | .G l=>.slcT (some 0) (.G (l.map (cX bs n))) sz len full
       | .M l=>if gb l then .slcT none (.M l) sz len full else .slcT (some 0) (.M (mapM' (cX bs n) l)) sz len full
       | r=>.slcT none r sz len full
   | .map d i=>match d with
     | d+1=>.map d i
     | 0=>.undef
   | .yld d i=>match d with
     | d+1=>.yld d i
     | 0=>.undef
   | .fn f a b=>.fn f (a.map (cX bs n)) (b.map (cX bs n))
   | .agg r=>match r with
     | .G l=>.agg (.G (l.map (cX bs n)))
     | .M l=>.agg (.M (mapM' (cX bs n) l))
     | r=>.agg r
   | .tup l=>.tup (l.map (cX bs n))
   | v=>v

def dX:Nat→List AV→av
 | _,[]=>[]
 | x,v::l=>(x,gC 1 v)::dX (x+1) l

def eS (P:Program) (fr:av) (H:aa):List ResultVar→Option (List AV)
 | []=>some []
 | .tmp t::r=>(eS P fr H r).map (bw fr t::·)
 | .cell a t::r=>match mJ P H t (bw fr a) with
   | some v=>(eS P fr H r).map (v::·)
   | none=>none
def one:List AV→AV
 | [v]=>v
 | l=>.tup l

def jL (nt:Nat) (fr:av):List Tmp→List AV→Option av
 | [],[]=>some fr
 | t::ts,v::vs=>if Nat.blt t nt then jL nt (uW fr t v) ts vs else none
 | _,_=>none

def cY:Ex→Option Code
 | .normal=>none
 | .exit id=>some (.exit id)
 | .goto l=>some (.goto l)
 | .ret=>some .ret

def kP (k:Nat):av→av
 | []=>[]
 | (x,v)::r=>(x,gC k v)::kP k r

noncomputable def cS (P:Program) (ora:aU→FuncId→List AV→aa→Option (AV×aa)) (KT:FuncId→Nat→Nat) (fu:Nat):Nat→aU
 | _,.mode,_,_=>(ora (fun _ _ _=>none) 1000000 [] []).map fun _=>(.undef,[])
 | 0,_,_,_=>none
 | n + 1,.fn f,args,H=>match ora (cS P ora KT fu n) f args H with
   | some r=>some r
   | none => match P.funcs[f]? with
     | none=>none
     | some fn=>match fn.body with
       | none=>none
       | some c=>if Nat.ble args.length fn.ntmps then
         match exec ⟨P,cS P ora KT fu n,fu,f,fn.ntmps,KT f,none⟩ c (dX 0 args) (⟨false,[]⟩::H) with
         | some (e,fr,l::H') =>
           (match e with
           | .normal | .ret=>match eS P fr (l::H') fn.results.toList with
             | some vs=>some (cX l.bs 5 (one vs),H')
             | none=>none
           | _=>none)
         | _=>none
         else none
 | n + 1,.round  d i,args,H=>match au H d i with
   | (0, .loop l) =>
     if az H d then none else
     match l.state with
     | .ready => match jL l.nt (kP (d+1) l.fr) l.params (args.map (gC 1)) with
       | some fr => match exec ⟨P,cS P ora KT fu n,fu,l.fn,l.nt,KT l.fn,some (d+1,i)⟩ l.assign fr (⟨false,[]⟩::H) with
         | some (.normal,fr,H1)=>match au H1 (d+1) i with
           | (0, .loop l1)=>match l1.state with
             | .ready =>
               match exec ⟨P,cS P ora KT fu n,fu,l.fn,l.nt,KT l.fn,some (d+1,i)⟩ l.body fr (dq H1 (d+1) i (0,.loop { l1 with state:=.busy })) with
               | some (e,_,_::H2)=>match au H2 d i with
                 | (0,.loop l2)=>some (.bool (cY e).isNone,dq H2 d i (0,.loop { l2 with state:=if (cY e).isNone then .ready else .done,pending:=cY e }))
                 | _=>none
               | _=>none
             | _=>none
           | _=>none
         | _=>none
       | none=>none
     | _=>none
   | _=>none

end Go.Eng
