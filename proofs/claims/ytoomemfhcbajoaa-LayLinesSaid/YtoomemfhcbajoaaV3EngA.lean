/- The engine, part A: abstract values, the abstract heap, the abstract interpreter. No statement is proved here. -/
import Derived.RangeFuncLeaves
import Derived.OrdersIn
import Derived.RangeFuncRecord
namespace Go.Eng
theorem nP:(∀ {α:Type} (a b:α),(some a=some b)=(a=b))∧(∀ {α β:Type} (a c:α) (b d:β),((a,b)=(c,d))=(a=c∧b=d)):=⟨fun _ _=>Option.some.injEq _ _,fun _ _ _ _=>Prod.mk.injEq _ _ _ _⟩

mutual
inductive AV where
 | undef
 | bool (b:Bool)
 | int (k:IntKind) (n:Int)
 | str (s:ByteArray)
 | nilp | nils | nilm | nilf
 | ptr (d i v off:Nat)
 | ptrT (s:Option Nat) (r:Row) (off:Nat)
 | slc (d i v off sz len:Nat) (cap:Option Nat)
 | slcT (s:Option Nat) (r:Row) (sz len:Nat) (full:Bool)
 | map (d i:Nat)
 | yld (d i:Nat)
 | fn (f:Fn) (first cap:List AV)
 | agg (r:Row)
 | tup (l:List AV)
inductive Row where
 | I (k:IntKind) (l:List Int)
 | G (l:List AV)
 | F (f:Nat→AV) (n:Nat)
 | M (l:List ah)
inductive ah where
 | one (v:AV)
 | arr (k:IntKind) (z:Nat→Int) (n:Nat)
end

instance:Inhabited AV:=⟨.undef⟩
instance:Inhabited Row:=⟨.G []⟩

def aM:ah→Nat
 | .one _=>1
 | .arr _ _ n=>n
def aw:List ah→Nat
 | []=>0
 | s::r=>aM s+aw r
def getM:List ah→Nat→AV
 | [],_=>.undef
 | .one v::_,0=>v
 | .one _::r,j+1=>getM r j
 | .arr k z n::r,j=>if j<n then .int k (z j) else getM r (j-n)
def mapM' (f:AV→AV):List ah→List ah
 | []=>[]
 | .one v::r=>.one (f v)::mapM' f r
 | .arr k z n::r=>.arr k z n::mapM' f r
def fZ:List ah→Bool
 | []=>true
 | .one _::_=>false
 | .arr _ _ _::r=>fZ r
def Row.len:Row→Nat
 | .I _ l=>l.length
 | .G l=>l.length
 | .F _ n=>n
 | .M l=>aw l
def Row.get:Row→Nat→AV
 | .I k l,j=>.int k (l.getD j 0)
 | .G l,j=>l.getD j .undef
 | .F f _,j=>f j
 | .M l,j=>getM l j

def di (g:Nat→AV):Nat→Nat→List AV
 | _,0=>[]
 | o,n+1=>g o::di g (o+1) n
def Row.toList:Row→List AV
 | .I k l=>l.map (.int k)
 | .G l=>l
 | .F f n=>di f 0 n
 | .M l=>di (getM l) 0 (aw l)
def Row.ints:Row→Option (IntKind×(Nat→Int))
 | .I k l=>some (k,fun j=>l.getD j 0)
 | .M [.arr k z _]=>some (k,z)
 | _=>none
def yl:Row→Bool
 | .M _=>true
 | _=>false
def qm:List AV→List ah→List ah
 | [],r=>r
 | v::l,r=>.one v::qm l r
def jJ:List ah→Nat→AV→List ah
 | [],_,_=>[]
 | .one _::r,0,v=>.one v::r
 | .one u::r,j+1,v=>.one u::jJ r j v
 | .arr k z n::r,j,v=>if j<n then (match v with
    | .int k' x=>if k'=k then .arr k (fun i=>if i=j then x else z i) n::r else qm (di (fun i=>if i=j then v else .int k (z i)) 0 n) r
    | _=>qm (di (fun i=>if i=j then v else .int k (z i)) 0 n) r)
   else .arr k z n::jJ r (j-n) v
def xz:List Int→Bool
 | []=>true
 | x::l=>x == 0 && xz l
def ML (l:List Int):Nat→Int:=if xz l then fun _=>0 else fun j=>l.getD j 0
def cZ (k:IntKind):List AV→List Int×List AV
 | .int k' n::r=>if k'=k then (match cZ k r with | (a,b)=>(n::a,b)) else ([],.int k' n::r)
 | l=>([],l)
def im:Nat→List AV→List ah
 | 0,l=>qm l []
 | _,[]=>[]
 | f+1,.int k n::r=>match cZ k r with
   | (a,b)=>if Nat.ble 7 a.length then .arr k (ML (n::a)) (a.length+1)::im f b else .one (.int k n)::im f r
 | f+1,v::r=>.one v::im f r

def sw (k:IntKind):List AV→Option (List Int)
 | []=>some []
 | .int k' n::r=>if k'=k then (sw k r).map (n::·) else none
 | _=>none
def Row.ofList:List AV→Row
 | .int k n::r=>match sw k r with
   | some l=>.I k (n::l)
   | none=>.G (.int k n::r)
 | l=>.G l

def lj:List ah→Nat→Nat→Option (IntKind×(Nat→Int))
 | [],_,_=>none
 | .one _::r,o+1,n=>lj r o n
 | .one _::_,0,_=>none
 | .arr k z m::r,o,n=>if o+n≤m then some (k,fun j=>z (o+j)) else if m≤o then lj r (o-m) n else none
def Row.sub (r:Row) (o n:Nat):Row :=
 match r with
 | .I k l=>.I k ((l.drop o).take n)
 | .G l=>.G ((l.drop o).take n)
 | .F f _=>.F (fun j=>f (o+j)) n
 | .M [.arr k z _]=>.M [.arr k (fun j=>z (o+j)) n]
 | .M l=>if Nat.beq o 0 && Nat.beq (aw l) n then .M l else match lj l o n with
   | some (k,z)=>.M [.arr k z n]
   | none=>.G (di (getM l) o n)

def g9:AV→Bool
 | .undef | .bool _ | .int _ _ | .str _ | .nilp | .nils | .nilm | .nilf=>true
 | .ptrT s _ _=>s.isNone
 | .slcT s _ _ _ _=>s.isNone
 | .agg (.I ..) | .agg (.F ..)=>true
 | .agg (.M l)=>fZ l
 | _=>false

def Row.cut (r:Row) (o n:Nat):Row :=
 match r with
 | .G l=>Row.ofList ((l.drop o).take n)
 | .M l=>if Nat.ble n 8 then Row.ofList (di (getM l) o n) else if Nat.beq o 0 && Nat.beq (aw l) n then .M l else (Row.M l).sub o n
 | r=>r.sub o n

def Row.set (r:Row) (j:Nat) (v:AV):Row :=
 match r,v with
 | .I k l,.int k' n=>if k'=k then .I k (l.set j n) else .G ((l.map (.int k)).set j v)
 | .I k l,v=>.G ((l.map (.int k)).set j v)
 | .G l,v=>.G (l.set j v)
 | .F f n,v=>.F (fun i=>if i=j then (if g9 v then v else .undef) else f i) n
 | .M l,v=>.M (jJ l j v)
def Row.cC (r:Row) (j:Nat):List AV→Row
 | []=>r
 | v::l=>(r.set j v).cC (j+1) l
def Row.tT (r s:Row):Option Row :=
 match r.ints,s.ints with
 | some (k,z),some (k',z')=>if k'=k then some (.M [.arr k (fun i=>if i<r.len then z i else z' (i-r.len)) (r.len+s.len)]) else none
 | _,_=>none
def m9:AV→AV
 | .slcT none (.I k l) sz m _=>.slcT none (.M [.arr k (fun j=>l.getD j 0) l.length]) sz m false
 | .slcT none (.M [.arr k z n]) sz m _=>.slcT none (.M [.arr k z n]) sz m false
 | v=>v
def qT (n i:Nat):Nat:=if Nat.beq n 1 then 0 else i
def Row.app (r s:Row):Row :=
 match r,s with
 | .M l,s=>(match (Row.M l).tT s with | some q=>q | none=>.G ((Row.M l).toList++s.toList))
 | .I k l,.M m=>(match (Row.I k l).tT (.M m) with | some q=>q | none=>.G ((Row.I k l).toList++(Row.M m).toList))
 | .I k l,.I k' l'=>if k'=k then .I k (l++l') else .G (l.map (.int k)++l'.map (.int k'))
 | .F f n,s=>.F (fun i=>if Nat.blt i n then f i else if g9 (s.get (qT s.len (i-n))) then m9 (s.get (qT s.len (i-n))) else .undef) (n+s.len)
 | r,s=>.G (r.toList++s.toList)

def nX (k:Nat):AV→AV
 | .ptr d i v off=>.ptr (d+k) i v off
 | .ptrT s r off=>.ptrT (s.map (· + k)) r off
 | .slc d i v off sz len cap=>.slc (d+k) i v off sz len cap
 | .slcT s r sz len full=>.slcT (s.map (· + k)) r sz len full
 | .map d i=>.map (d+k) i
 | .yld d i=>.yld (d+k) i
 | .agg (.I a l)=>.agg (.I a l)
 | .fn _ _ _ | .agg _ | .tup (_::_)=>.undef
 | v=>v
def Mx (k:Nat) (v:AV):AV :=
 match v with
 | .fn f a b=>.fn f (a.map (nX k)) (b.map (nX k))
 | .agg (.G l)=>.agg (.G (l.map (nX k)))
 | .agg (.M l)=>.agg (.M (mapM' (nX k) l))
 | .agg r=>.agg r
 | v=>nX k v
def fz (k:Nat) (v:AV):AV :=
 match k with
 | 0=>v
 | k+1=>Mx (k+1) v
def AX (k:Nat):Row→Row
 | .I a l=>.I a l
 | .G l=>.G (l.map (nX k))
 | .F f n=>.F f n
 | .M l=>.M (mapM' (nX k) l)
def AW (k:Nat) (r:Row):Row :=
 match k with
 | 0=>r
 | k+1=>AX (k+1) r
def ko:Nat→Nat→AV→AV
 | 0,_,_=>.undef
 | n + 1,k,v=>match v with
   | .ptr d i v off=>if Nat.blt d k then .undef else .ptr (d-k) i v off
   | .ptrT none r off=>.ptrT none r off
   | .ptrT (some s) r off=>if Nat.blt s k then (match r with
     | .G l=>.ptrT (some 0) (.G (l.map (ko n (k-s)))) off
     | .M l=>if fZ l then .ptrT none (.M l) off else .ptrT (some 0) (.M (mapM' (ko n (k-s)) l)) off
     | r=>.ptrT none r off) else .ptrT (some (s-k)) r off
   | .slc d i v off sz len cap=>if Nat.blt d k then .undef else .slc (d-k) i v off sz len cap
   | .slcT none r sz len full=>.slcT none r sz len full
   | .slcT (some s) r sz len full=>if Nat.blt s k then (match r with
     | .G l=>.slcT (some 0) (.G (l.map (ko n (k-s)))) sz len full
     | .M l=>if fZ l then .slcT none (.M l) sz len full else .slcT (some 0) (.M (mapM' (ko n (k-s)) l)) sz len full
     | r=>.slcT none r sz len full) else .slcT (some (s-k)) r sz len full
   | .map d i=>if Nat.blt d k then .undef else .map (d-k) i
   | .yld d i=>if Nat.blt d k then .undef else .yld (d-k) i
   | .agg (.I a l)=>.agg (.I a l)
   | .fn _ _ _ | .agg _ | .tup (_::_)=>.undef
   | v=>v
def KQ (k:Nat) (v:AV):AV :=
 match v with
 | .fn f a b=>.fn f (a.map (ko 4 k)) (b.map (ko 4 k))
 | .agg (.G l)=>.agg (.G (l.map (ko 4 k)))
 | .agg (.M l)=>.agg (.M (mapM' (ko 4 k) l))
 | .agg r=>.agg r
 | v=>ko 4 k v
def Nd (k:Nat) (v:AV):AV :=
 match k with
 | 0=>v
 | k+1=>KQ (k+1) v
def vU (k:Nat):Row→Row
 | .I a l=>.I a l
 | .G l=>.G (l.map (ko 4 k))
 | .F f n=>.F f n
 | .M l=>.M (mapM' (ko 4 k) l)

def kn (k:Nat) (r:Row):Row :=
 match k with
 | 0=>r
 | k+1=>vU (k+1) r

abbrev ao:=List (Nat×AV)
def bo:ao→Nat→AV
 | [],_=>.undef
 | (x,v)::r,y=>if Nat.beq x y then v else bo r y
def tV:ao→Nat→AV→ao
 | [],y,u=>[(y,u)]
 | (x,v)::r,y,u=>if Nat.ble y x then (if Nat.beq x y then (y,u)::r else (y,u)::(x,v)::r) else (x,v)::tV r y u
def nF (m x:Nat):Bool:=Nat.beq (Nat.land (Nat.shiftRight m x) 1) 1
noncomputable def bM (fr:ao) (m:Nat):ao:=List.rec (motive:=fun _=>ao) [] (fun p _ ih=>Prod.rec (motive:=fun _=>ao) (fun x _=>Bool.rec (motive:=fun _=>ao) (p::ih) ih (Nat.beq (Nat.land (Nat.shiftRight m x) 1) 1)) p) fr

structure gQ where
 state:LoopState
 pending:Option Code
 fn:FuncId
 nt:Nat
 fr:ao
 params:List Tmp
 assign:Code
 body:Code

inductive KK where
 | num (k:IntKind)
 | str (n:Nat)
inductive ak where
 | dead
 | row (r:Row)
 | map (es:List (AV×AV))
 | fmap (q:KK) (h:List Int→Bool) (g:List Int→Int) (c:Nat)
 | loop (l:gQ)

structure aW where
 lock:Bool
 bs:List (Nat×ak)
abbrev aa:=List aW

def an:List (Nat×ak)→Nat→Nat×ak
 | [],_=>(0,.dead)
 | b::_,0=>b
 | _::r,i+1=>an r i
def bT:List (Nat×ak)→Nat→Nat×ak→List (Nat×ak)
 | [],_,_=>[]
 | _::r,0,x=>x::r
 | b::r,i+1,x=>b::bT r i x
def aq:aa→Nat→Nat→Nat×ak
 | [],_,_=>(0,.dead)
 | l::_,0,i=>an l.bs i
 | _::r,d+1,i=>aq r d i
def au:aa→Nat→Bool
 | [],_=>true
 | l::_,0=>l.lock
 | _::r,d+1=>au r d
def eh:aa→Nat→Nat→Nat×ak→aa
 | [],_,_,_=>[]
 | l::r,0,i,x=>{ l with bs:=bT l.bs i x } :: r
 | l::r,d+1,i,x=>l::eh r d i x
def cR (H:aa) (d i:Nat):aa:=eh H d i ((aq H d i).1,.dead)
def iO:aa→ak→aa
 | [],b=>[⟨false,[(0,b)]⟩]
 | l::r,b=>{ l with bs:=l.bs++[(0,b)] } :: r
def bF:aa→Nat→ak→aa
 | [],_,_=>[]
 | l::r,0,b=>{ l with bs:=l.bs++[(0,b)] } :: r
 | l::r,d+1,b=>l::bF r d b
def aj:aa→Nat→Nat
 | [],_=>0
 | l::_,0=>l.bs.length
 | _::r,d+1=>aj r d
def al:aa→Nat
 | []=>0
 | l::_=>l.bs.length
def az:aa→aa
 | []=>[]
 | l::r=>{ l with lock:=true } :: az r

def dy (H:aa) (d i v:Nat):Option Row :=
 match aq H d i with
 | (ver,.row r)=>if Nat.beq ver v then some r else none
 | _=>none

def sa:Value→AV
 | .bool b=>.bool b
 | .int k n=>.int k n
 | .string s=>.str s
 | .pointer none=>.nilp
 | .slice none 0 0=>.nils
 | .map none=>.nilm
 | .nilFunc=>.nilf
 | _=>.undef
def kF:Value→AV
 | .bool b=>.bool b
 | .int k n=>.int k n
 | .string s=>.str s
 | .pointer none=>.nilp
 | .slice none 0 0=>.nils
 | .map none=>.nilm
 | .nilFunc=>.nilf
 | .func (.func f) ca cb=>if ca.isEmpty && cb.isEmpty then .fn (.func f) [] [] else .undef
 | .agg cs=>if cs.toList.all Value.oneCell' then .agg (Row.ofList (cs.toList.map sa)) else .undef
 | .tuple cs=>if cs.isEmpty then .tup [] else .undef
 | _=>.undef

def bI (fr:ao):Operand→AV
 | .tmp t=>bo fr t
 | .const v=>kF v
 | .global _=>.undef
 | .func f=>.fn (.func f) [] []

def AV.row:AV→Option Row
 | .agg r=>some r
 | .int k n=>some (.I k [n])
 | .undef | .tup _=>none
 | v=>some (.G [v])

def ff (P:Program) (t:TypeId):Option Bool :=
 match P.underlying t with
 | some (.struct _) | some (.array _ _)=>some true
 | some _=>some false
 | none=>none
def bh (P:Program) (t:TypeId):Option Nat:=(P.info? t).map (·.size)
def cD (P:Program) (t:TypeId):Option AV:=((P.info? t).bind (·.zero)).map kF

inductive Delta where
 | ba
 | push (b:ak)
 | set (d i:Nat) (b:Nat×ak)
 | heap (H:aa)
def Delta.on (δ:Delta) (H:aa):aa :=
 match δ with
 | .ba=>H
 | .push b=>iO H b
 | .set d i b=>eh H d i b
 | .heap H=>H

inductive Mz where
 | fn (f:FuncId)
 | round (d i:Nat)
 | mode
abbrev aV:=Mz→List AV→aa→Option (AV×aa)

def ij (op:BinOp) (k:IntKind) (x y:Int):Option AV :=
 match op with
 | .add=>some (.int k (k.wrap (x+y)))
 | .sub=>some (.int k (k.wrap (x-y)))
 | .mul=>some (.int k (k.wrap (x*y)))
 | .quo=>if y=0 then none else some (.int k (k.wrap (x.tdiv y)))
 | .rem=>if y=0 then none else some (.int k (x.tmod y))
 | .and=>some (.int k (k.wrap (BitVec.ofInt k.bits x &&& BitVec.ofInt k.bits y).toNat))
 | .or=>some (.int k (k.wrap (BitVec.ofInt k.bits x ||| BitVec.ofInt k.bits y).toNat))
 | .xor=>some (.int k (k.wrap (BitVec.ofInt k.bits x ^^^ BitVec.ofInt k.bits y).toNat))
 | .andNot=>some (.int k (k.wrap (BitVec.ofInt k.bits x &&& ~~~(BitVec.ofInt k.bits y)).toNat))
 | .eql=>some (.bool (x == y))
 | .neq=>some (.bool (x != y))
 | .lss=>some (.bool (x<y))
 | .leq=>some (.bool (x≤y))
 | .gtr=>some (.bool (x > y))
 | .geq=>some (.bool (x≥y))
 | _=>none

def gh (P:Program) (g:TypeId→Option Nat) (off:Nat):List Field→Option Nat
 | []=>some off
 | f::fs=>if f.name != "_" && Nat.beq f.offset off then (match g f.type with
   | some s=>gh P g (off+s) fs
   | none=>none) else none
def b5 (P:Program):Nat→TypeId→Option Nat
 | 0,_=>none
 | n + 1,t=>match P.underlying t with
   | some (.int _)=>if bh P t=some 1 then some 1 else none
   | some (.array len e)=>match b5 P n e with
     | some s=>if bh P t=some (len*s) then some (len*s) else none
     | none=>none
   | some (.struct fs)=>if P.stoodInHeld t then none else match gh P (b5 P n) 0 fs.toList with
     | some s=>if bh P t=some s then some s else none
     | none=>none
   | _=>none

def fc:List Int→List Int→Bool
 | [],[]=>true
 | x::a,y::b=>(x == y) && fc a b
 | _,_=>false

def allEq (z z':Nat→Int):Nat→Bool
 | 0=>true
 | n+1=>allEq z z' n && (z n == z' n)
def Kh (P:Program) (t:TypeId) (r s:Row):Option Bool :=
 match r.ints,s.ints with
 | some (k,z),some (k',z')=>if k=k'∧b5 P 20 t=some r.len∧ff P t=some true∧r.len=s.len then some (allEq z z' r.len) else none
 | _,_=>none
def zU (P:Program) (t:TypeId) (x y:AV):Option Bool :=
 match x,y with
 | .bool a,.bool b=>(match P.underlying t with | some .bool=>some (a == b) | _=>none)
 | .nils,.nils | .nils,.slcT .. | .nils,.slc .. | .slcT ..,.nils | .slc ..,.nils =>
   (match P.underlying t with
   | some (.slice _)=>(match x,y with
     | .nils,.nils=>some true
     | .nils,.slcT _ _ _ n _=>if 0<n then some false else none
     | .slcT _ _ _ n _,.nils=>if 0<n then some false else none
     | _,_=>some false)
   | _=>none)
 | .nilp,.nilp | .nilp,.ptr .. | .nilp,.ptrT .. | .ptr ..,.nilp | .ptrT ..,.nilp =>
   (match P.underlying t with
   | some (.pointer _)=>some (match x,y with | .nilp,.nilp=>true | _,_=>false)
   | _=>none)
 | .agg (.I k a),.agg (.I k' b)=>if k=k'∧b5 P 20 t=some a.length∧ff P t=some true∧a.length=b.length then some (fc a b) else none
 | .agg (.M l),.agg s=>Kh P t (.M l) s
 | .agg (.I k a),.agg (.M l)=>Kh P t (.I k a) (.M l)
 | _,_=>none

def jQ (P:Program) (op:BinOp) (t:TypeId) (x y:AV):Option AV :=
 match op,x,y with
 | .shl,.int k a,.int _ b=>if b<0 then none else some (.int k (k.wrap (a*2 ^ (min b.toNat k.bits))))
 | .shr,.int k a,.int _ b=>if b<0 then none else some (.int k (a.fdiv (2 ^ (min b.toNat k.bits))))
 | op,.int k a,.int k' b=>if k=k' then ij op k a b else none
 | .eql,x,y=>(zU P t x y).map .bool
 | .neq,x,y=>(zU P t x y).map fun b=>.bool (!b)
 | _,_,_=>none

def Mt (op:UnOp) (x:AV):Option AV :=
 match op,x with
 | .not,.bool b=>some (.bool !b)
 | .neg,.int k n=>some (.int k (k.wrap (0-n)))
 | _,_=>none

def nO {α:Type} (l:List α):Nat→List α
 | 0=>[]
 | n+1=>l++nO l n
def dO (z:Row) (n:Nat):Row :=
 match z with
 | .I k l=>.I k (nO l n)
 | z=>.G (nO z.toList n)
def EB (l:List AV) (n:Nat):Row :=
 match l with
 | [v]=>if g9 v then .F (fun _=>v) n else .G (nO l n)
 | l=>.G (nO l n)
def dB (z:Row) (n:Nat):Row :=
 match z with
 | .I k l=>if xz l then .M [.arr k (fun _=>0) (n*l.length)] else .I k (nO l n)
 | z=>EB z.toList n
def jd (r:Row):Row :=
 match r with
 | .I k l=>if Nat.ble 8 l.length then .M [.arr k (ML l) l.length] else .I k l
 | .G l=>if (im l.length l).length == l.length then .G l else .M (im l.length l)
 | r=>r
def CL (z:Nat→Int) (off:Nat) (z':Nat→Int) (n:Nat):Nat→Int:=fun i=>if off≤i∧i<off+n then z' (i-off) else z i
def za:List ah→Nat→Nat→List ah→Option (List ah)
 | [],_,_,_=>none
 | .one v::r,o+1,n,q=>(za r o n q).map (.one v::·)
 | .one _::_,0,_,_=>none
 | .arr k z m::r,o,n,q=>if Nat.beq o 0 && Nat.beq m n then some (q++r) else if Nat.ble m o then (za r (o-m) n q).map (.arr k z m::·) else none
def Iq (q:Row):Option (List ah) :=
 match jd q with
 | .M l=>some l
 | _=>none
def wV (l:List ah) (off:Nat) (q:Row):Row :=
 if Nat.ble 9 q.len then (match Iq q with
  | some qs=>if Nat.beq off 0 && Nat.beq (aw l) q.len then .M qs else (match za l off q.len qs with
    | some l'=>.M l'
    | none=>(Row.M l).cC off q.toList)
  | none=>(Row.M l).cC off q.toList)
 else (Row.M l).cC off q.toList
def jH (r:Row) (off:Nat) (q:Row):Row :=
 match r with
 | .M l=>(match l with
   | [.arr k z m]=>(match q with
     | .M [.arr k' z' n]=>if k'=k then .M [.arr k (CL z off z' n) m] else wV l off q
     | _=>wV l off q)
   | _=>wV l off q)
 | r=>r.cC off q.toList
def qS:AV→Bool
 | .slcT none (.M [.arr _ _ _]) _ _ _=>true
 | .slcT none (.I _ _) _ _ _=>true
 | _=>false
def rj (sy:Bool) (r:Row):Row :=
 match r with
 | .I k l=>if sy then .M [.arr k (fun j=>l.getD j 0) l.length] else .I k l
 | .G [v]=>if sy && qS v then .F (fun _=>m9 v) 1 else .G [v]
 | r=>r
def sk (place:Nat→Option (Nat×Nat)) (r:Row):List (Nat×AV)→Option Row
 | []=>some r
 | (i,v)::rest=>match place i with
   | none=>none
   | some (off,size)=>match v.row with
     | some q=>if q.len=size∧off+q.len≤r.len then sk place (r.cC off q.toList) rest else none
     | none=>none

def ir (P:Program) (t:TypeId) (r:Row) (off:Nat):Option AV :=
 match ff P t,bh P t with
 | some true,some n=>if off+n≤r.len then some (.agg (r.cut off n)) else none
 | some false,_=>if off<r.len then some (r.get off) else none
 | _,_=>none

def Pt (s:Option Nat) (v:AV):AV :=
 match s with
 | none=>v
 | some k=>fz k v

def ma (P:Program) (H:aa) (t:TypeId) (a:AV):Option AV :=
 match a with
 | .ptr d i v off=>match dy H d i v with
   | some r=>(ir P t r off).map (fz d)
   | none=>none
 | .ptrT s r off=>(ir P t r off).map (Pt s)
 | _=>none

def gq (P:Program) (H:aa) (t:TypeId) (a x:AV):Option Delta :=
 match a with
 | .ptr d i v off =>
   if au H d then none else
   match dy H d i v,bh P t,x.row with
   | some r,some n,some q =>
     if q.len=n∧off+n≤r.len then
      match d,x with
      | d+1,.slc 0 j w o sz len cap=>if au H 0 then none else match dy H 0 j w with
        | some q=>some (.heap (bF (eh (cR H 0 j) (d+1) i (v,.row (r.set off (.slc 0 (aj H (d+1)) 0 o sz len cap)))) (d+1) (.row (kn (d+1) q))))
        | none=>none
      | _,_=>some (.set d i (v,.row (jH r off (kn d q))))
     else none
   | _,_,_=>none
 | _=>none

def lf (P:Program):List Field→Option (List (Nat×Nat))
 | []=>some []
 | f::fs=>match bh P f.type,lf P fs with
   | some n,some l=>some ((f.offset,n)::l)
   | _,_=>none

def vQ (P:Program) (sy:Bool) (t:TypeId) (parts:List (Nat×AV)):Option AV :=
 match cD P t,P.underlying t with
 | some (.agg z),some (.struct fs)=>match lf P fs.toList with
   | some l=>(sk (fun i=>l[i]?) (if sy then jd z else z) parts).map .agg
   | none=>none
 | some (.agg z),some (.array _ e)=>match bh P e with
   | some n=>(sk (fun i=>some (i*n,n)) (if sy then jd z else z) parts).map .agg
   | none=>none
 | _,_=>none

def ky (a:AV) (n:Nat):Option AV :=
 match a with
 | .ptr d i v off=>some (.ptr d i v (off+n))
 | .ptrT s r off=>some (.ptrT s r (off+n))
 | _=>none

def gA (P:Program) (t:TypeId) (a:AV) (f:Nat):Option AV :=
 match P.underlying t with
 | some (.struct fs)=>match fs[f]? with
   | some g=>match bh P g.type with
     | some (_+1)=>ky a g.offset
     | _=>none
   | none=>none
 | _=>none

def fC (P:Program) (t:TypeId) (x:AV) (i:Int):Option AV :=
 match P.underlying t,x with
 | some (.array n e),x=>match bh P e with
   | some z=>if 0≤i∧i<n then ky x (i.toNat*z) else none
   | none=>none
 | some (.slice e),.slc d j v off sz len _ =>
   if 0≤i∧i<len∧bh P e=some sz then some (.ptr d j v (off+i.toNat*sz)) else none
 | some (.slice e),.slcT s r sz len _ =>
   if 0≤i∧i<len∧bh P e=some sz then some (.ptrT s r (i.toNat*sz)) else none
 | _,_=>none

def qa (P:Program) (t:TypeId) (x:AV) (i:Int):Option AV :=
 match P.underlying t,x with
 | some (.array n e),.agg r=>match bh P e with
   | some z=>if 0≤i∧i<n then ir P e r (i.toNat*z) else none
   | none=>none
 | some .string,.str s=>if 0≤i then (match s[i.toNat]? with
   | some b=>some (.int .u8 b.toNat)
   | none=>none) else none
 | _,_=>none

def sj (P:Program) (t:TypeId) (x:AV) (f:Nat):Option AV :=
 match P.underlying t,x with
 | some (.struct fs),.agg r=>match fs[f]? with
   | some g=>ir P g.type r g.offset
   | none=>none
 | _,_=>none

def bound (o:Option AV) (dflt top:Nat):Option Nat :=
 match o with
 | none=>some dflt
 | some (.int _ i)=>if 0≤i∧i≤top then some i.toNat else none
 | some _=>none

def ep (lo hi mx:Option AV) (len:Nat):Option (Nat×Nat×Option Nat) :=
 match mx with
 | none=>match bound hi len len with
   | some h=>match bound lo 0 h with
     | some l=>some (l,h,none)
     | none=>none
   | none=>none
 | some a=>match bound (some a) 0 len with
   | some m=>if hi.isSome then (match bound hi len m with
     | some h=>match bound lo 0 h with
       | some l=>some (l,h,some m)
       | none=>none
     | none=>none) else none
   | none=>none

def qv (P:Program) (t:TypeId) (x:AV) (lo hi mx:Option AV):Option AV :=
 match P.underlying t,x with
 | some (.slice e),.slc d j v off sz len cap =>
   match ep lo hi mx len with
   | some (l,h,mm)=>if bh P e=some sz then
      some (.slc d j v (off+l*sz) sz (h-l) (match mm with | none=>cap.map (· - l) | some m=>some (m-l))) else none
   | none=>none
 | some (.slice e),.slcT s r sz len full =>
   match ep lo hi mx len with
   | some (l,h,mm)=>if bh P e=some sz∧l*sz+(h-l)*sz≤r.len then
      some (.slcT s (r.sub (l*sz) ((h-l)*sz)) sz (h-l) (match mm with | none=>full && Nat.beq h len | some m=>Nat.beq h m)) else none
   | none=>none
 | some (.slice e),.nils =>
   match ep lo hi mx 0,bh P e with
   | some _,some _=>some .nils
   | _,_=>none
 | some (.array n e),.ptr d j v off =>
   match ep lo hi mx n with
   | some (l,h,mm)=>match bh P e with
     | some sz=>some (.slc d j v (off+l*sz) sz (h-l) (match mm with | none=>some (n-l) | some m=>some (m-l)))
     | none=>none
   | none=>none
 | _,_=>none

def ue (P:Program) (H:aa) (t:TypeId) (x:AV):Option Int :=
 match P.underlying t,x with
 | some (.array n _),_=>some n
 | some (.slice _),.nils=>some 0
 | some (.slice _),.slc _ _ _ _ _ len _=>some len
 | some (.slice _),.slcT _ _ _ len _=>some len
 | some (.map _ _),.nilm=>some 0
 | some (.map _ _),.map d i=>match aq H d i with
   | (0,.map es)=>some es.length
   | (0,.fmap _ _ _ c)=>some c
   | _=>none
 | _,_=>none

def I5 (P:Program) (t:TypeId) (x:AV):Option Int :=
 match P.underlying t,x with
 | some (.slice _),.nils=>some 0
 | some (.slice _),.slc _ _ _ _ _ _ (some c)=>some c
 | _,_=>none

def eE (H:aa) (sz n:Nat) (x:AV):Option Row :=
 match x with
 | .nils=>if n=0 then some (.G []) else none
 | .slc d i v off sz' len _=>match dy H d i v with
   | some r=>if sz'=sz∧n≤len∧off+n*sz≤r.len then some (AW d (r.sub off (n*sz))) else none
   | none=>none
 | .slcT s r sz' len _=>if sz'=sz∧n≤len∧n*sz≤r.len then some (match s with | none=>r.sub 0 (n*sz) | some k=>AW k (r.sub 0 (n*sz))) else none
 | _=>none
def ny:AV→Option Nat
 | .nils=>some 0
 | .slc _ _ _ _ _ len _=>some len
 | .slcT _ _ _ len _=>some len
 | _=>none

def room:Nat:=2 ^ 46

def DX (P:Program) (sy:Bool) (nx:Nat) (e:TypeId) (s x:AV):Option (AV×Delta) :=
 match P.info? e,s,x with
 | some inf,.nils,.int _ k =>
   if 0≤k∧k.toNat≤room∧k.toNat*inf.bytes≤room∧0<inf.size∧((cD P e).bind AV.row).map Row.len=some inf.size then
    (if k=0 then some (.nils,.ba) else some (.slc 0 nx 0 0 inf.size k.toNat none,.push (.row (rj sy (.I .i64 [])))))
   else none
 | _,_,_=>none
def oc      (P:Program) (sy:Bool) (H:aa) (nx:Nat) (t u:TypeId) (s x:AV):Option (AV×Delta) :=
 match P.underlying t,P.underlying u with
 | some (.slice e),some (.int _)=>DX P sy nx e s x
 | some (.slice e),some (.slice _) =>
   match P.info? e,ny s,ny x with
   | some inf,some m,some n =>
     if n=0 then (match s,x with
      | .nils,_=>some (s,.ba)
      | .slc ..,_=>some (s,.ba)
      | .slcT ..,_=>some (s,.ba)
      | _,_=>none)
     else if (m+n)*inf.bytes≤room∧(m+n)≤room∧0<inf.bytes∧((cD P e).bind AV.row).map Row.len=some inf.size then
      match eE H inf.size n x with
      | none=>none
      | some new =>
        match s with
        | .nils=>some (.slc 0 nx 0 0 inf.size n none,.push (.row (rj sy new)))
        | .slcT _ _ _ _ true=>match eE H inf.size m s with
          | some old=>some (.slc 0 nx 0 0 inf.size (m+n) none,.push (.row (rj sy (old.app new))))
          | none=>none
        | .slc d i v off sz _ (some c) =>
          if c<m+n then
           match eE H inf.size m s with
           | some old=>some (.slc 0 nx 0 0 inf.size (m+n) none,.push (.row (rj sy (old.app new))))
           | none=>none
          else if au H d then none else
           match dy H d i v with
           | some r=>if sz=inf.size∧off+(m+n)*sz≤r.len then
              some (.slc d i v off sz (m+n) (some c),.set d i (v,.row (r.cC (off+m*sz) (kn d new).toList)))
             else none
           | none=>none
        | .slc d i v off sz _ none =>
          if au H d then none else
          match dy H d i v with
          | some r=>if sz=inf.size∧off+m*sz=r.len then
             some (.slc d i (v+1) 0 sz (m+n) none,.set d i (v+1,.row ((r.sub off (m*sz)).app (kn d new))))
            else none
          | none=>none
        | _=>none
     else none
   | _,_,_=>none
 | _,_=>none

def copyV (P:Program) (H:aa) (t:TypeId) (s x:AV):Option (AV×Delta) :=
 match P.underlying t with
 | some (.slice e) =>
   match bh P e,ny s,ny x with
   | some z,some m,some n =>
     match eE H z (min n m) x with
     | none=>none
     | some new =>
       match s with
       | .nils=>some (.int .i64 (min n m:Nat),.ba)
       | .slc d i v off sz _ _ =>
         if au H d then none else
         match dy H d i v with
         | some r=>if sz=z∧off+(min n m)*sz≤r.len then
            some (.int .i64 (min n m:Nat),.set d i (v,.row (jH r off (kn d new))))
           else none
         | none=>none
       | _=>none
   | _,_,_=>none
 | _=>none

def r8 (P:Program) (H:aa) (t:TypeId) (s:AV):Option (AV×Delta) :=
 match P.underlying t,s with
 | some (.slice _),.nils=>some (.tup [],.ba)
 | some (.slice e),.slc d i v off sz len _ =>
   if au H d then none else
   match (cD P e).bind AV.row,dy H d i v with
   | some z,some r=>if z.len=sz∧bh P e=some sz∧off+len*sz≤r.len then
      some (.tup [],if len=0 then .ba else .set d i (v,.row (if yl r then jH r off (dB z len) else r.cC off (dO z len).toList)))
     else none
   | _,_=>none
 | _,_=>none

def eM (mx:Bool) (k:IntKind) (x:Int):List AV→Option AV
 | []=>some (.int k x)
 | .int k' y::r=>if k=k' then eM mx k (if mx then (if y > x then y else x) else (if y<x then y else x)) r else none
 | _=>none
def nG (mx:Bool):List AV→Option AV
 | .int k x::r=>eM mx k x r
 | _=>none

def iS (P:Program) (sy:Bool) (nx:Nat) (t:TypeId) (l c:AV):Option (AV×Delta) :=
 match P.underlying t,l,c with
 | some (.slice e),.int _ l,.int _ c =>
   match P.info? e,(cD P e).bind AV.row with
   | some inf,some z =>
     if 0≤l∧l≤c∧c.toNat*inf.bytes≤room∧c.toNat≤room∧z.len=inf.size then
      some (.slc 0 nx 0 0 inf.size l.toNat (some c.toNat),.push (.row (if sy then dB z c.toNat else dO z c.toNat)))
     else none
   | _,_=>none
 | _,_,_=>none

def jj (P:Program) (nx:Nat) (t:TypeId) (len:Nat) (parts:List (Nat×AV)):Option (AV×Delta) :=
 match P.underlying t with
 | some (.slice e)=>match bh P e,(cD P e).bind AV.row with
   | some z,some zv =>
     if len*z≤2 ^ 24∧zv.len=z then
      (sk (fun i=>some (i*z,z)) (dO zv len) parts).map fun r=>(.slc 0 nx 0 0 z len (some len),.push (.row r))
     else none
   | _,_=>none
 | _=>none

def oN (x y:AV):Option Bool :=
 match x,y with
 | .int k a,.int k' b=>if k=k' then some (a == b) else none
 | .agg (.I k a),.agg (.I k' b)=>if k=k'∧a.length=b.length then some (fc a b) else none
 | _,_=>none
def gf (key:AV):List (AV×AV)→Nat→Option (Option Nat)
 | [],_=>some none
 | (k,_)::r,i=>match oN key k with
   | some true=>some (some i)
   | some false=>gf key r (i+1)
   | none=>none
def jE (P:Program) (t:TypeId) (x:AV):Bool :=
 match P.underlying t,x with
 | some (.int _),.int _ _=>true
 | some (.array _ _),.agg (.I _ l)=>b5 P 20 t == some l.length
 | some (.struct _),.agg (.I _ l)=>b5 P 20 t == some l.length
 | _,_=>false
def uN (H:aa) (m:AV):Option (Nat×List (AV×AV)) :=
 match m with
 | .nilm=>some (0,[])
 | .map d i=>match aq H d i with
   | (0,.map es)=>some (d,es)
   | _=>none
 | _=>none
def nK:List (AV×AV)→Nat→AV
 | [],_=>.undef
 | e::_,0=>e.2
 | _::r,i+1=>nK r i
def nR:List (AV×AV)→Nat→AV×AV→List (AV×AV)
 | [],_,_=>[]
 | _::r,0,x=>x::r
 | e::r,i+1,x=>e::nR r i x
def nn:List (AV×AV)→Nat→List (AV×AV)
 | [],_=>[]
 | _::r,0=>r
 | e::r,i+1=>e::nn r i
def uS (H:aa) (m:AV):Option (KK×(List Int→Bool)×(List Int→Int)×Nat) :=
 match m with
 | .map d i=>match aq H d i with
   | (0,.fmap q h g c)=>some (q,h,g,c)
   | _=>none
 | _=>none
def ud:KK→AV→Option (List Int)
 | .num k,.int k' n=>if k=k' then some [n] else none
 | .str m,.agg (.I .i64 l)=>if Nat.beq l.length m then some l else none
 | _,_=>none
def Ld:AV→Option KK
 | .int k _=>some (.num k)
 | .agg (.I .i64 l)=>some (.str l.length)
 | _=>none
def yU:AV→Option Int
 | .int .i64 n=>some n
 | _=>none
def hY (h:List Int→Bool) (n:List Int) (b:Bool):List Int→Bool:=fun i=>if i=n then b else h i
def lh (g:List Int→Int) (n:List Int) (x:Int):List Int→Int:=fun i=>if i=n then x else g i
def xC (b:Bool) (c:Nat):Nat:=cond b c (c+1)
def CK (b:Bool) (c:Nat):Nat:=cond b (c-1) c
def sP (P:Program) (t:TypeId):ak :=
 match P.underlying t with
 | some (.map kt et)=>match (cD P kt).bind Ld,(cD P et).bind yU with
   | some q,some _=>.fmap q (fun _=>false) (fun _=>0) 0
   | _,_=>.map []
 | _=>.map []
def oU (P:Program) (H:aa) (t:TypeId) (m key:AV) (ok:Bool):Option AV :=
 match P.underlying t with
 | some (.map kt et) =>
   if jE P kt key then
    match uS H m with
    | some (q,h,g,_)=>match ud q key,(cD P et).bind yU with
      | some n,some 0=>some (if ok then .tup [.int .i64 (g n),.bool (h n)] else .int .i64 (g n))
      | _,_=>none
    | none=>match uN H m,cD P et with
    | some (d,es),some z=>match gf key es 0 with
      | some (some i)=>some (if ok then .tup [fz d (nK es i),.bool true] else fz d (nK es i))
      | some none=>some (if ok then .tup [z,.bool false] else z)
      | none=>none
    | _,_=>none
   else none
 | _=>none
def jz (P:Program) (H:aa) (t:TypeId) (m key x:AV):Option Delta :=
 match P.underlying t,m with
 | some (.map kt _),.map d i =>
   if au H d then none else
   if jE P kt key then
    match aq H d i with
    | (0,.fmap q h g c)=>match ud q key,yU x with
      | some n,some y=>some (.set d i (0,.fmap q (hY h n true) (lh g n y) (xC (h n) c)))
      | _,_=>none
    | (0,.map es)=>match gf key es 0 with
      | some (some j)=>some (.set d i (0,.map (nR es j (key,Nd d x))))
      | some none=>some (.set d i (0,.map (es++[(key,Nd d x)])))
      | none=>none
    | _=>none
   else none
 | _,_=>none
def oo (P:Program) (H:aa) (t:TypeId) (m key:AV):Option (AV×Delta) :=
 match P.underlying t,m with
 | some (.map kt _),.map d i =>
   if au H d then none else
   if jE P kt key then
    match aq H d i with
    | (0,.fmap q h g c)=>match ud q key with
      | some n=>some (.tup [],.set d i (0,.fmap q (hY h n false) (lh g n 0) (CK (h n) c)))
      | none=>none
    | (0,.map es)=>match gf key es 0 with
      | some (some j)=>some (.tup [],.set d i (0,.map (nn es j)))
      | some none=>some (.tup [],.set d i (0,.map es))
      | none=>none
    | _=>none
   else none
 | _,_=>none

def dL (fr:ao):List (Nat×Operand)→List (Nat×AV)
 | []=>[]
 | (i,x)::r=>(i,bI fr x)::dL fr r
def jG (fr:ao):List Operand→List AV
 | []=>[]
 | x::r=>bI fr x::jG fr r

def lL {α:Type} (call:aV) (a b:α):α :=
 match call .mode [] [] with
 | some _=>a
 | none=>b
def fI (P:Program) (call:aV) (fr:ao) (H:aa) (nx:Nat) (c:Call):Option (AV×Delta) :=
 match c.callee with
 | .value f=>match bI fr f with
   | .fn (.func g) a b=>(call (.fn g) (a++(jG fr c.args.toList++b)) H).map fun (v,H)=>(v,.heap H)
   | .yld d i=>(call (.round d i) (jG fr c.args.toList) H).map fun (v,H)=>(v,.heap H)
   | _=>none
 | .builtin .len=>match c.args.toList,c.argTypes.toList with
   | x::_,t::_=>(ue P H t (bI fr x)).map fun n=>(.int .i64 n,.ba)
   | _,_=>none
 | .builtin .cap=>match c.args.toList,c.argTypes.toList with
   | x::_,t::_=>(I5 P t (bI fr x)).map fun n=>(.int .i64 n,.ba)
   | _,_=>none
 | .builtin .append=>match c.args.toList,c.argTypes.toList with
   | s::x::_,t::u::_=>oc P (lL call true false) H nx t u (bI fr s) (bI fr x)
   | _,_=>none
 | .builtin .copy=>match c.args.toList,c.argTypes.toList with
   | s::x::_,t::_=>copyV P H t (bI fr s) (bI fr x)
   | _,_=>none
 | .builtin .clear=>match c.args.toList,c.argTypes.toList with
   | s::_,t::_=>r8 P H t (bI fr s)
   | _,_=>none
 | .builtin .delete=>match c.args.toList,c.argTypes.toList with
   | m::k::_,t::_=>oo P H t (bI fr m) (bI fr k)
   | _,_=>none
 | .builtin .min=>(nG false (jG fr c.args.toList)).map fun v=>(v,.ba)
 | .builtin .max=>(nG true (jG fr c.args.toList)).map fun v=>(v,.ba)
 | _=>none

def kp (o:Option AV):Option (AV×Delta):=o.map fun v=>(v,.ba)

def evalOp (P:Program) (call:aV) (fr:ao) (H:aa) (nx:Nat) (o:Oper):Option (AV×Delta) :=
 match o.op with
 | .move x | .assign x=>some (bI fr x,.ba)
 | .pick c a b=>match bI fr c with
   | .bool t=>some (if t then bI fr a else bI fr b,.ba)
   | _=>none
 | .alloc t=>((cD P t).bind AV.row).map fun z=>(.ptr 0 nx 0 0,.push (.row (lL call (jd z) z)))
 | .box _ x=>(bI fr x).row.map fun r=>(.ptr 0 nx 0 0,.push (.row (lL call (jd r) r)))
 | .build t parts=>kp (vQ P (lL call true false) t (dL fr parts.toList))
 | .buildSlice t len parts=>jj P nx t len (dL fr parts.toList)
 | .load t a=>kp (ma P H t (bI fr a))
 | .store t a x=>(gq P H t (bI fr a) (bI fr x)).map fun δ=>(.tup [],δ)
 | .nilCheck x=>match bI fr x with
   | .ptr d i v off=>some (.ptr d i v off,.ba)
   | .ptrT s r off=>some (.ptrT s r off,.ba)
   | _=>none
 | .binOp op t x y _=>kp (jQ P op t (bI fr x) (bI fr y))
 | .unOp op _ x=>kp (Mt op (bI fr x))
 | .convert src dst x=>match P.underlying src,P.underlying dst,bI fr x with
   | some _,some (.int k),.int _ n=>some (.int k (k.wrap n),.ba)
   | _,_,_=>none
 | .makeFunc fn first cap=>match fn with
   | .func g=>some (.fn (.func g) (jG fr first.toList) (jG fr cap.toList),.ba)
   | _=>none
 | .makeSlice t l c=>iS P (lL call true false) nx t (bI fr l) (bI fr c)
 | .slice t x lo hi mx=>kp (qv P t (bI fr x) (lo.map (bI fr)) (hi.map (bI fr)) (mx.map (bI fr)))
 | .fieldAddr t x f=>kp (gA P t (bI fr x) f)
 | .field t x f=>kp (sj P t (bI fr x) f)
 | .indexAddr t x i=>match bI fr i with
   | .int _ n=>kp (fC P t (bI fr x) n)
   | _=>none
 | .index t x i=>match bI fr i with
   | .int _ n=>kp (qa P t (bI fr x) n)
   | _=>none
 | .makeMap t none=>some (.map 0 nx,.push (lL call (sP P t) (.map [])))
 | .lookup t m k ok=>kp (oU P H t (bI fr m) (bI fr k) ok)
 | .mapUpdate t m k x | .insert t m k x=>(jz P H t (bI fr m) (bI fr k) (bI fr x)).map fun δ=>(.tup [],δ)
 | .extract t ix=>match bI fr t with
   | .tup l=>match l[ix]? with
     | some v=>some (v,.ba)
     | none=>none
   | _=>none
 | .call c=>fI P call fr H nx c
 | _=>none

inductive Want where
 | run | skip | lost
def h9 (ops:Array Oper) (fr:ao) (o:Oper):Want :=
 match o.guard with
 | none=>.run
 | some (j,want)=>match (ops[j]?).bind (·.dst) with
   | none=>.lost
   | some d=>match bo fr d with
     | .bool b=>if b == want then .run else .skip
     | .tup _=>.skip
     | _=>.lost

def dp (nt:Nat) (fr:ao) (dst:Option Tmp) (v:AV):ao :=
 match dst with
 | some d=>if Nat.blt d nt then tV fr d v else fr
 | none=>fr

def dz (P:Program) (nt:Nat) (call:aV) (ops:Array Oper):List Oper→ao→aa→Option (ao×aa)
 | [],fr,H=>some (fr,H)
 | o :: r,fr,H=>match h9 ops fr o with
   | .lost=>none
   | .skip=>dz P nt call ops r (dp nt fr o.dst (.tup [])) H
   | .run=>match evalOp P call fr H (al H) o with
     | none=>none
     | some (v,δ)=>dz P nt call ops r (dp nt fr o.dst v) (δ.on H)

inductive Touch where
 | none
 | blk (d i:Nat)
 | all
structure Rec where
 ix:Nat
 reads:Touch
 writes:Option (Nat×Nat)
def cG (fr:ao) (o:Oper):Touch :=
 let at' (v:AV):Touch:=match v with
  | .ptr d i _ _=>.blk d i
  | .slc d i _ _ _ _ _=>.blk d i
  | .map d i=>.blk d i
  | _=>.none
 match o.op with
 | .load _ a=>at' (bI fr a)
 | .store _ a _=>at' (bI fr a)
 | .lookup _ m _ _=>at' (bI fr m)
 | .mapUpdate _ m _ _ | .insert _ m _ _=>at' (bI fr m)
 | .call c=>match c.callee with
   | .builtin .len=>match c.args.toList with
     | x::_=>match bI fr x with | .map d i=>.blk d i | _=>.none
     | _=>.all
   | .builtin .min | .builtin .max=>.none
   | _=>.all
 | _=>.none
def cX (H:aa) (bef:Nat):List Rec→aa
 | []=>H
 | r::l=>match r.writes with
   | some (d,i)=>if bef.testBit r.ix then cX H bef l else cX (cR H d i) bef l
   | none=>cX H bef l
def iT (bef:Nat) (d i:Nat):List Rec→Bool
 | []=>true
 | r::l=>(bef.testBit r.ix || (match r.reads with
   | .none=>true
   | .blk e j=>!(Nat.beq e d && Nat.beq j i)
   | .all=>false)) && iT bef d i l

def gp (o:Oper):Bool :=
 match o.op with
 | .alloc _ | .box _ _ | .buildSlice _ _ _ | .makeSlice _ _ _ | .makeMap _ _=>true
 | .call c=>match c.callee with
   | .builtin .append=>true
   | _=>false
 | _=>false
def cB:List Oper→Nat
 | []=>0
 | o::r=>if gp o then cB r+1 else cB r
def kP:aa→Nat→aa
 | [],_=>[]
 | l::r,k=>{ l with bs:=l.bs++List.replicate k (0,.dead) } :: r
def gG:ak→Bool
 | .dead=>true
 | _=>false
def oM:Nat×ak→Bool
 | (0,.dead)=>true
 | _=>false
def eR (o:Oper):Bool :=
 match o.op with
 | .call c=>match c.callee with
   | .value _=>true
   | _=>false
 | _=>false
def rn (H:aa):Option (Nat×Nat×(Nat×ak))→aa
 | none=>H
 | some (d,i,b)=>eh H d i b
structure tO where
 v:AV
 rd:Touch
 wr:Option (Nat×Nat×(Nat×ak))
def eH (P:Program) (call:aV) (ops:Array Oper) (bef:Nat) (fr:ao) (H:aa) (nx:Nat) (recs:List Rec) (o:Oper):Option tO :=
 match h9 ops fr o with
 | .lost=>none
 | .skip=>some ⟨.tup [],.none,none⟩
 | .run =>
   if eR o then match evalOp P call fr (az (cX H bef recs)) nx o with
    | some (v,_)=>some ⟨v,.all,none⟩
    | none=>none
   else match evalOp P call fr (cX H bef recs) nx o with
    | some (v,.ba)=>some ⟨v,cG fr o,none⟩
    | some (v,.push b)=>if gp o && !gG b && oM (aq H 0 nx) && !au H 0 then some ⟨v,cG fr o,some (0,nx,(0,b))⟩ else none
    | some (v,.set d i b)=>if !gG b.2 && (Nat.beq b.1 (aq H d i).1 || Nat.beq b.1 (Nat.succ (aq H d i).1)) && !gG (aq (cX H bef recs) d i).2 && iT bef d i recs then some ⟨v,cG fr o,some (d,i,b)⟩ else none
    | _=>none

def ft (P:Program) (nt:Nat) (call:aV) (ops:Array Oper) (befs:Array Nat):Nat→List Oper→ao→aa→Nat→List Rec→Option (ao×aa)
 | _,[],fr,H,_,_=>some (fr,H)
 | j,o::r,fr,H,nx,recs=>match eH P call ops (befs.getD j 0) fr H nx recs o with
   | some e=>ft P nt call ops befs (j+1) r (dp nt fr o.dst e.v) (rn H e.wr) (if gp o then nx+1 else nx) (⟨j,e.rd,e.wr.map fun x=>(x.1,x.2.1)⟩::recs)
   | none=>none

def eX (ops:Array Oper) (befs:Array Nat):Bool :=
 ops.toList.zipIdx.all fun (o,j)=>Nat.blt (befs.getD j 0) (2 ^ j) &&
  ops.toList.zipIdx.all fun (q,i) =>
   Nat.beq i j || (match q.dst with
   | none=>true
   | some d=>(o.dst != some d) && (!(o.looksAt ops).contains d || (befs.getD j 0).testBit i || (befs.getD i 0).testBit j))

inductive Ex where
 | normal | exit (id:Nat) | goto (l:Nat) | ret

def Bt:Option Nat→Bool
 | some 0=>true
 | _=>false
def CJ:AV→Bool
 | .int _ _=>true
 | .bool _=>true
 | .nils=>true
 | .slcT none _ _ _ _=>true
 | .ptrT none _ _=>true
 | _=>false
def KO:Row→Bool
 | .I _ _=>true
 | .F _ _=>true
 | .G l=>l.all CJ
 | .M l=>fZ l
def lK (n:Nat):AV→Bool
 | .ptr d i _ _=>Nat.beq d 0 && Nat.ble n i
 | .slc d i _ _ _ _ _=>Nat.beq d 0 && Nat.ble n i
 | .map d i=>Nat.beq d 0 && Nat.ble n i
 | .yld d i=>Nat.beq d 0 && Nat.ble n i
 | .ptrT s r _=>Bt s && !KO r
 | .slcT s _ _ _ _=>Bt s
 | .agg (.G _)=>true
 | .agg (.M l)=>!fZ l
 | .fn _ _ _=>true
 | .tup (_::_)=>true
 | _=>false
def anyM (f:AV→Bool):List ah→Bool
 | []=>false
 | .one v::r=>f v || anyM f r
 | .arr _ _ _::r=>anyM f r
def rp (n:Nat):AV→Bool
 | .agg (.G l)=>l.any (lK n)
 | .agg (.M l)=>anyM (lK n) l
 | .fn _ a b=>a.any (lK n) || b.any (lK n)
 | .ptrT (some 0) (.M l) _=>anyM (lK n) l
 | v=>lK n v
def OG (n:Nat):Row→Bool
 | .I .. | .F ..=>false
 | .G l=>l.any (rp n)
 | .M l=>anyM (rp n) l
def Ds (n:Nat):ak→Bool
 | .dead=>false
 | .row r=>OG n r
 | .map es=>es.any fun e=>rp n e.1 || rp n e.2
 | .fmap _ _ _ _=>false
 | .loop _=>true
def cutAt (fr:ao) (l:aW) (r:aa):Nat→Nat→aa
 | 0,_=>l::r
 | k+1,m=>if fr.any (fun x=>rp m x.2) || (l.bs.take m).any (fun x=>Ds m x.2) then cutAt fr l r k (m+1) else { l with bs:=l.bs.take m } :: r
def ly (n:Nat) (fr:ao) (H:aa):aa :=
 match H with
 | []=>[]
 | l::r=>if Nat.ble l.bs.length n then H else cutAt fr l r 4 n

def Hr:AV→Bool
 | .ptrT (some 0) (.M l) _=>anyM (lK 0) l
 | v=>lK 0 v
def uv (h:Nat):AV→Bool
 | .ptr d i _ _=>Nat.beq d 0 && Nat.beq i h
 | .slc d i _ _ _ _ _=>Nat.beq d 0 && Nat.beq i h
 | .map d i=>Nat.beq d 0 && Nat.beq i h
 | .yld d i=>Nat.beq d 0 && Nat.beq i h
 | v=>Hr v
def pF (f:AV→Bool) (v:AV):Bool :=
 match v with
 | .agg (.G l)=>l.any f
 | .agg (.M l)=>anyM f l
 | .fn _ a b=>a.any f || b.any f
 | v=>f v
def Kp (f:AV→Bool):Row→Bool
 | .I .. | .F ..=>false
 | .G l=>l.any (pF f)
 | .M l=>anyM (pF f) l
def z3 (f:AV→Bool):ak→Bool
 | .dead=>false
 | .row r=>Kp f r
 | .map _=>true
 | .fmap _ _ _ _=>false
 | .loop _=>true
def uk (a b:Nat):AV→AV
 | .ptr d i v off=>if Nat.beq d 0 && Nat.beq i a then .ptr 0 b v off else .ptr d i v off
 | .slc d i v off sz len cap=>if Nat.beq d 0 && Nat.beq i a then .slc 0 b v off sz len cap else .slc d i v off sz len cap
 | .map d i=>if Nat.beq d 0 && Nat.beq i a then .map 0 b else .map d i
 | .yld d i=>if Nat.beq d 0 && Nat.beq i a then .yld 0 b else .yld d i
 | v=>v
def mY (g:AV→AV) (v:AV):AV :=
 match v with
 | .agg (.G l)=>.agg (.G (l.map g))
 | .agg (.M l)=>.agg (.M (mapM' g l))
 | .fn f a b=>.fn f (a.map g) (b.map g)
 | v=>g v
def Fe (g:AV→AV):Row→Row
 | .I k l=>.I k l
 | .F f n=>.F f n
 | .G l=>.G (l.map (mY g))
 | .M l=>.M (mapM' (mY g) l)
def qg (g:AV→AV):ak→ak
 | .row r=>.row (Fe g r)
 | b=>b
def qh (g:AV→AV):ao→ao
 | []=>[]
 | (x,v)::r=>(x,mY g v)::qh g r
def js (g:AV→AV):List (Nat×ak)→List (Nat×ak)
 | []=>[]
 | (v,b)::r=>(v,qg g b)::js g r
def hole (fr:ao) (bs:List (Nat×ak)):Nat→Nat→Option Nat
 | 0,_=>none
 | k+1,m=>if Nat.blt (m+1) bs.length then
    if fr.any (fun x=>pF (uv m) x.2) || ((bs.take m).any (fun x=>z3 (uv m) x.2) || (bs.drop (m+1)).any (fun x=>z3 (uv m) x.2)) then hole fr bs k (m+1) else some m
   else none
def xt (a b:Nat) (l:aW):aW:={ l with bs:=bT (js (uk a b) (l.bs.take a)) b ((an l.bs a).1,qg (uk a b) (an l.bs a).2) }
def ja (n:Nat):Nat→ao→aa→ao×aa
 | 0,fr,H=>(fr,H)
 | k + 1,fr,H=>match H with
   | []=>(fr,[])
   | l::r=>match hole fr l.bs 4 n with
     | none=>(fr,l::r)
     | some h=>ja n k (qh (uk (l.bs.length-1) h) fr) (ly n (qh (uk (l.bs.length-1) h) fr) (xt (l.bs.length-1) h l::r))
def tidy (n:Nat) (fr:ao) (H:aa):ao×aa:=ja n 4 fr (ly n fr H)

def mW (i ver:Nat) (r:Row):AV→AV
 | .ptr d j v off=>if Nat.beq d 0 && (Nat.beq j i && Nat.beq v ver) then .ptrT none r off else .ptr d j v off
 | .slc d j v off sz len cap=>if Nat.beq d 0 && (Nat.beq j i && (Nat.beq v ver && Nat.ble (off+len*sz) r.len)) then .slcT none (r.sub off (len*sz)) sz len (cap == some len) else .slc d j v off sz len cap
 | v=>v
def ph (i:Nat):AV→Bool
 | .slc d j _ _ _ _ _=>Nat.beq d 0 && Nat.beq j i
 | _=>false
def wj:Row→Bool
 | .I _ _=>true
 | .M [.arr _ _ _]=>true
 | _=>false
def JT (f:AV→Bool):ak→Bool
 | .row r=>Kp f r
 | _=>false
def lZ (i:Nat) (fr:ao) (l:aW):ao×aW :=
 match an l.bs i with
 | (ver,.row r)=>if wj r && (fr.any (fun x=>pF (ph i) x.2) || l.bs.any (fun x=>JT (ph i) x.2)) then (qh (mW i ver r) fr,{ l with bs:=bT (js (mW i ver r) l.bs) i (ver,.dead) }) else (fr,l)
 | _=>(fr,l)
def iQ:Nat→ao→aW→ao×aW
 | 0,fr,l=>(fr,l)
 | n+1,fr,l=>lZ n (iQ n fr l).1 (iQ n fr l).2
def C0 (fr:ao) (H:aa):ao×aa :=
 match H with
 | []=>(fr,[])
 | l::r=>if l.lock then (fr,l::r) else ((iQ l.bs.length fr l).1,(iQ l.bs.length fr l).2::r)
def eA:Nat→ao→aW→ao×aW
 | 0,fr,l=>(fr,l)
 | n+1,fr,l=>if (eA n fr l).1.any (fun x=>pF (ph n) x.2) then eA n fr l else lZ n (eA n fr l).1 (eA n fr l).2
def ub (fr:ao) (H:aa):ao×aa :=
 match H with
 | []=>(fr,[])
 | l::r=>if l.lock then (fr,l::r) else ((eA l.bs.length fr l).1,(eA l.bs.length fr l).2::r)
def Lv (sz:Nat):AV→AV
 | .nils=>.slcT none (.M [.arr .i64 (fun _=>0) 0]) sz 0 false
 | v=>v
def Dh (sz:Nat):Nat→List AV→List AV
 | _,[]=>[]
 | 0,v::l=>Lv sz v::l
 | c+1,v::l=>v::Dh sz c l
def um (c sz:Nat):ak→ak
 | .row (.G l)=>.row (.G (Dh sz c l))
 | B=>B
def me (c sz:Nat):List (Nat×ak)→List (Nat×ak)
 | []=>[]
 | (v,B)::r=>(v,um c sz B)::me c sz r
def Fi (k:Nat) (H:aa):aa :=
 match H with
 | []=>[]
 | l::r=>if l.lock then l::r else { l with bs:=me (k % 8) (k / 8) l.bs } :: r
def BE (s:Nat):ao→Option Nat
 | []=>none
 | (x,v)::r=>if Nat.beq x s then (match v with
   | .slc 0 i _ _ _ _ _=>some i
   | _=>none) else BE s r
def wh (s:Nat) (fr:ao) (H:aa):ao×aa :=
 match H with
 | []=>(fr,[])
 | l::r=>if l.lock then (fr,l::r) else match BE s fr with
   | some i=>((lZ i fr l).1,(lZ i fr l).2::r)
   | none=>(fr,l::r)
noncomputable def l5 (m:Nat) (fr:ao) (H:aa):ao×aa:=if nF m 4000 then ((C0 (bM fr m) H).1,if Nat.beq (Nat.shiftRight m 4003) 0 then (C0 (bM fr m) H).2 else Fi (Nat.shiftRight m 4003) (C0 (bM fr m) H).2) else if nF m 4001 then wh (Nat.shiftRight m 4003) (bM fr m) H else if nF m 4002 then (match bo (bM fr m) (Nat.shiftRight m 4003) with | .bool false=>ub (bM fr m) H | _=>(bM fr m,H)) else (bM fr m,H)

def iter (body:ao→aa→Option (Ex×ao×aa)) (n:Nat):Nat→ao→aa→Option (Ex×ao×aa)
 | 0,_,_=>none
 | fu+1,fr,H=>match body fr H with
   | some (.normal,fr,H)=>iter body n fu (tidy n fr H).1 (tidy n fr H).2
   | r=>r

structure Cx where
 P:Program
 call:aV
 fu:Nat
 fn:FuncId
 nt:Nat
 kt:Nat→Nat
 ro:Option (Nat×Nat)
def Cx.here (cx:Cx) (H:aa):Bool :=
 match cx.ro with
 | none=>true
 | some (d,i)=>match aq H d i with
   | (0,.loop _)=>true
   | _=>false

def gJ (fr:ao) (H:aa) (cx:Cx) (params:Array Tmp) (assign body:Code):aa :=
 iO H (.loop { state:=.ready,pending:=none,fn:=cx.fn,nt:=cx.nt,fr,params:=params.toList,assign,body })

def sc:Option Code→Option Ex
 | none=>some .normal
 | some (.exit id)=>some (.exit id)
 | some (.goto l)=>some (.goto l)
 | some .ret=>some .ret
 | _=>none

noncomputable def exec (cx:Cx):Code→ao→aa→Option (Ex×ao×aa)
 | .skip,fr,H=>some (.normal,fr,H)
 | .label _,fr,H=>some (.normal,fr,H)
 | .region id ops draw,fr,H =>
   match (if draw then (if eX ops (Region.before ops) then ft cx.P cx.nt cx.call ops (Region.before ops) 0 ops.toList fr (kP H (cB ops.toList)) (al H) [] else none) else dz cx.P cx.nt cx.call ops ops.toList fr H) with
   | some (fr,H)=>some (.normal,l5 (cx.kt id) fr H)
   | none=>none
 | .seq a b,fr,H=>match exec cx a fr H with
   | some (.normal,fr,H)=>exec cx b fr H
   | r=>r
 | .cond c a b,fr,H=>match bI fr c with
   | .bool true=>exec cx a fr H
   | .bool false=>exec cx b fr H
   | _=>none
 | .block id b,fr,H=>match exec cx b fr H with
   | some (.exit id',fr,H)=>if Nat.beq id' id then some (.normal,fr,H) else some (.exit id',fr,H)
   | r=>r
 | .loop b,fr,H=>iter (exec cx b) (al H) cx.fu fr H
 | .rangeFunc f params assign body,fr,H =>
   match bI fr f with
   | .fn (.func g) a b =>
     if !cx.here H || au H 0 then none else
     match cx.call (.fn g) (a++(.yld 0 (al H)::b)) (gJ fr H cx params assign body) with
     | some (_,H1)=>match aq H1 0 (al H) with
       | (0,.loop l) =>
         if l.state == .busy then none else
         match sc l.pending with
         | some e=>some (e,fr,cR H1 0 (al H))
         | none=>none
       | _=>none
     | none=>none
   | _=>none
 | .exit id,fr,H=>some (.exit id,fr,H)
 | .scope b,fr,H=>match exec cx b fr H with
   | some (.goto _,_,_)=>none
   | r=>r
 | .goto l,fr,H=>some (.goto l,fr,H)
 | .ret,fr,H=>some (.ret,fr,H)
 | .refuse _,_,_=>none

def dC   (bs:List (Nat×ak)):Nat→AV→AV
 | 0,_=>.undef
 | n + 1,v=>match v with
   | .ptr d i ver off=>match d with
     | d+1=>.ptr d i ver off
     | 0 => match an bs i with
       | (w,.row r)=>if Nat.beq w ver then (match r with
         | .I k l=>.ptrT none (.I k l) off
         | .F f m=>.ptrT none (.F f m) off
         | .M l=>if fZ l then .ptrT none (.M l) off else .ptrT (some 0) (.M (mapM' (dC bs n) l)) off
         | .G l=>.ptrT (some 0) (.G (l.map (dC bs n))) off) else .undef
       | _=>.undef
   | .slc d i ver off sz len cap=>match d with
     | d+1=>.slc d i ver off sz len cap
     | 0 => match an bs i with
       | (w,.row r)=>if Nat.beq w ver∧off+len*sz≤r.len then (match r.sub off (len*sz) with
         | .I k l=>.slcT none (.I k l) sz len (cap == some len)
         | .F f m=>.slcT none (.F f m) sz len (cap == some len)
         | .M l=>if fZ l then .slcT none (.M l) sz len (cap == some len) else .slcT (some 0) (.M (mapM' (dC bs n) l)) sz len (cap == some len)
         | .G l=>.slcT (some 0) (.G (l.map (dC bs n))) sz len (cap == some len)) else .undef
       | _=>.undef
   | .ptrT s r off=>match s with
     | none=>.ptrT none r off
     | some (s+1)=>.ptrT (some s) r off
     | some 0=>match r with
       | .G l=>.ptrT (some 0) (.G (l.map (dC bs n))) off
       | .M l=>if fZ l then .ptrT none (.M l) off else .ptrT (some 0) (.M (mapM' (dC bs n) l)) off
       | r=>.ptrT none r off
   | .slcT s r sz len full=>match s with
     | none=>.slcT none r sz len full
     | some (s+1)=>.slcT (some s) r sz len full
     | some 0=>match r with
       | .G l=>.slcT (some 0) (.G (l.map (dC bs n))) sz len full
       | .M l=>if fZ l then .slcT none (.M l) sz len full else .slcT (some 0) (.M (mapM' (dC bs n) l)) sz len full
       | r=>.slcT none r sz len full
   | .map d i=>match d with
     | d+1=>.map d i
     | 0=>.undef
   | .yld d i=>match d with
     | d+1=>.yld d i
     | 0=>.undef
   | .fn f a b=>.fn f (a.map (dC bs n)) (b.map (dC bs n))
   | .agg r=>match r with
     | .G l=>.agg (.G (l.map (dC bs n)))
     | .M l=>.agg (.M (mapM' (dC bs n) l))
     | r=>.agg r
   | .tup l=>.tup (l.map (dC bs n))
   | v=>v

def ef:Nat→List AV→ao
 | _,[]=>[]
 | x,v::l=>(x,fz 1 v)::ef (x+1) l

def gv (P:Program) (fr:ao) (H:aa):List ResultVar→Option (List AV)
 | []=>some []
 | .tmp t::r=>(gv P fr H r).map (bo fr t::·)
 | .cell a t::r=>match ma P H t (bo fr a) with
   | some v=>(gv P fr H r).map (v::·)
   | none=>none
def one:List AV→AV
 | [v]=>v
 | l=>.tup l

def lG (nt:Nat) (fr:ao):List Tmp→List AV→Option ao
 | [],[]=>some fr
 | t::ts,v::vs=>if Nat.blt t nt then lG nt (tV fr t v) ts vs else none
 | _,_=>none

def c9:Ex→Option Code
 | .normal=>none
 | .exit id=>some (.exit id)
 | .goto l=>some (.goto l)
 | .ret=>some .ret

def my (k:Nat):ao→ao
 | []=>[]
 | (x,v)::r=>(x,fz k v)::my k r

noncomputable def cM (P:Program) (ora:aV→FuncId→List AV→aa→Option (AV×aa)) (KT:FuncId→Nat→Nat) (fu:Nat):Nat→aV
 | _,.mode,_,_=>(ora (fun _ _ _=>none) 1000000 [] []).map fun _=>(.undef,[])
 | 0,_,_,_=>none
 | n + 1,.fn f,args,H=>match ora (cM P ora KT fu n) f args H with
   | some r=>some r
   | none => match P.funcs[f]? with
     | none=>none
     | some fn=>match fn.body with
       | none=>none
       | some c=>if Nat.ble args.length fn.ntmps then
         match exec ⟨P,cM P ora KT fu n,fu,f,fn.ntmps,KT f,none⟩ c (ef 0 args) (⟨false,[]⟩::H) with
         | some (e,fr,l::H') =>
           (match e with
           | .normal | .ret=>match gv P fr (l::H') fn.results.toList with
             | some vs=>some (dC l.bs 5 (one vs),H')
             | none=>none
           | _=>none)
         | _=>none
         else none
 | n + 1,.round  d i,args,H=>match aq H d i with
   | (0, .loop l) =>
     if au H d then none else
     match l.state with
     | .ready => match lG l.nt (my (d+1) l.fr) l.params (args.map (fz 1)) with
       | some fr => match exec ⟨P,cM P ora KT fu n,fu,l.fn,l.nt,KT l.fn,some (d+1,i)⟩ l.assign fr (⟨false,[]⟩::H) with
         | some (.normal,fr,H1)=>match aq H1 (d+1) i with
           | (0, .loop l1)=>match l1.state with
             | .ready =>
               match exec ⟨P,cM P ora KT fu n,fu,l.fn,l.nt,KT l.fn,some (d+1,i)⟩ l.body fr (eh H1 (d+1) i (0,.loop { l1 with state:=.busy })) with
               | some (e,_,_::H2)=>match aq H2 d i with
                 | (0,.loop l2)=>some (.bool (c9 e).isNone,eh H2 d i (0,.loop { l2 with state:=if (c9 e).isNone then .ready else .done,pending:=c9 e }))
                 | _=>none
               | _=>none
             | _=>none
           | _=>none
         | _=>none
       | none=>none
     | _=>none
   | _=>none

end Go.Eng
