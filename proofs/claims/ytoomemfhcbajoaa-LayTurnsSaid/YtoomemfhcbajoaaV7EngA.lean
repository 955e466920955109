/- The engine, part A: abstract values, the abstract heap, the abstract interpreter. No statement is proved here. -/
import Derived.RangeFuncLeaves
import Derived.OrdersIn
import Derived.RangeFuncRecord
namespace Go.Eng
theorem nP:(∀ {α:Type} (a b:α),(some a=some b)=(a=b))∧(∀ {α β:Type} (a c:α) (b d:β),((a,b)=(c,d))=(a=c∧b=d)):=⟨fun _ _=>Option.some.injEq _ _,fun _ _ _ _=>Prod.mk.injEq _ _ _ _⟩

mutual
inductive AV where
 | undef
 | bool (b:Bool)
 | int (k:IntKind) (n:Int)
 | str (s:ByteArray)
 | nilp | nils | nilm | nilf
 | ptr (d i v off:Nat)
 | ptrT (s:Option Nat) (r:Row) (off:Nat)
 | slc (d i v off sz len:Nat) (cap:Option Nat)
 | slcT (s:Option Nat) (r:Row) (sz len:Nat) (full:Bool)
 | map (d i:Nat)
 | yld (d i:Nat)
 | fn (f:Fn) (first cap:List AV)
 | agg (r:Row)
 | tup (l:List AV)
inductive Row where
 | I (k:IntKind) (l:List Int)
 | G (l:List AV)
 | F (f:Nat→AV) (n:Nat)
 | M (l:List Seg)
inductive Seg where
 | one (v:AV)
 | arr (k:IntKind) (z:Nat→Int) (n:Nat)
end

instance:Inhabited AV:=⟨.undef⟩
instance:Inhabited Row:=⟨.G []⟩

def segLen:Seg→Nat
 | .one _=>1
 | .arr _ _ n=>n
def lenM:List Seg→Nat
 | []=>0
 | s::r=>segLen s+lenM r
def getM:List Seg→Nat→AV
 | [],_=>.undef
 | .one v::_,0=>v
 | .one _::r,j+1=>getM r j
 | .arr k z n::r,j=>if j<n then .int k (z j) else getM r (j-n)
def mapM' (f:AV→AV):List Seg→List Seg
 | []=>[]
 | .one v::r=>.one (f v)::mapM' f r
 | .arr k z n::r=>.arr k z n::mapM' f r
def arrs:List Seg→Bool
 | []=>true
 | .one _::_=>false
 | .arr _ _ _::r=>arrs r
def Row.len:Row→Nat
 | .I _ l=>l.length
 | .G l=>l.length
 | .F _ n=>n
 | .M l=>lenM l
def Row.get:Row→Nat→AV
 | .I k l,j=>.int k (l.getD j 0)
 | .G l,j=>l.getD j .undef
 | .F f _,j=>f j
 | .M l,j=>getM l j

def listOf (g:Nat→AV):Nat→Nat→List AV
 | _,0=>[]
 | o,n+1=>g o::listOf g (o+1) n
def Row.toList:Row→List AV
 | .I k l=>l.map (.int k)
 | .G l=>l
 | .F f n=>listOf f 0 n
 | .M l=>listOf (getM l) 0 (lenM l)
def Row.ints:Row→Option (IntKind×(Nat→Int))
 | .I k l=>some (k,fun j=>l.getD j 0)
 | .M [.arr k z _]=>some (k,z)
 | _=>none
def isM:Row→Bool
 | .M _=>true
 | _=>false
def ones:List AV→List Seg→List Seg
 | [],r=>r
 | v::l,r=>.one v::ones l r
def setM:List Seg→Nat→AV→List Seg
 | [],_,_=>[]
 | .one _::r,0,v=>.one v::r
 | .one u::r,j+1,v=>.one u::setM r j v
 | .arr k z n::r,j,v=>if j<n then (match v with
    | .int k' x=>if k'=k then .arr k (fun i=>if i=j then x else z i) n::r else ones (listOf (fun i=>if i=j then v else .int k (z i)) 0 n) r
    | _=>ones (listOf (fun i=>if i=j then v else .int k (z i)) 0 n) r)
   else .arr k z n::setM r (j-n) v
def allZ:List Int→Bool
 | []=>true
 | x::l=>x == 0 && allZ l
def zfn (l:List Int):Nat→Int:=if allZ l then fun _=>0 else fun j=>l.getD j 0
def segRun (k:IntKind):List AV→List Int×List AV
 | .int k' n::r=>if k'=k then (match segRun k r with | (a,b)=>(n::a,b)) else ([],.int k' n::r)
 | l=>([],l)
def segsOf:Nat→List AV→List Seg
 | 0,l=>ones l []
 | _,[]=>[]
 | f+1,.int k n::r=>match segRun k r with
   | (a,b)=>if Nat.ble 7 a.length then .arr k (zfn (n::a)) (a.length+1)::segsOf f b else .one (.int k n)::segsOf f r
 | f+1,v::r=>.one v::segsOf f r

def intsOf (k:IntKind):List AV→Option (List Int)
 | []=>some []
 | .int k' n::r=>if k'=k then (intsOf k r).map (n::·) else none
 | _=>none
def Row.ofList:List AV→Row
 | .int k n::r=>match intsOf k r with
   | some l=>.I k (n::l)
   | none=>.G (.int k n::r)
 | l=>.G l

def subA:List Seg→Nat→Nat→Option (IntKind×(Nat→Int))
 | [],_,_=>none
 | .one _::r,o+1,n=>subA r o n
 | .one _::_,0,_=>none
 | .arr k z m::r,o,n=>if o+n≤m then some (k,fun j=>z (o+j)) else if m≤o then subA r (o-m) n else none
def Row.sub (r:Row) (o n:Nat):Row :=
 match r with
 | .I k l=>.I k ((l.drop o).take n)
 | .G l=>.G ((l.drop o).take n)
 | .F f _=>.F (fun j=>f (o+j)) n
 | .M [.arr k z _]=>.M [.arr k (fun j=>z (o+j)) n]
 | .M l=>if Nat.beq o 0 && Nat.beq (lenM l) n then .M l else match subA l o n with
   | some (k,z)=>.M [.arr k z n]
   | none=>.G (listOf (getM l) o n)

def pureV:AV→Bool
 | .undef | .bool _ | .int _ _ | .str _ | .nilp | .nils | .nilm | .nilf=>true
 | .ptrT s _ _=>s.isNone
 | .slcT s _ _ _ _=>s.isNone
 | .agg (.I ..) | .agg (.F ..)=>true
 | .agg (.M l)=>arrs l
 | _=>false

def Row.cut (r:Row) (o n:Nat):Row :=
 match r with
 | .G l=>Row.ofList ((l.drop o).take n)
 | .M l=>if Nat.ble n 8 then Row.ofList (listOf (getM l) o n) else if Nat.beq o 0 && Nat.beq (lenM l) n then .M l else (Row.M l).sub o n
 | r=>r.sub o n

def Row.set (r:Row) (j:Nat) (v:AV):Row :=
 match r,v with
 | .I k l,.int k' n=>if k'=k then .I k (l.set j n) else .G ((l.map (.int k)).set j v)
 | .I k l,v=>.G ((l.map (.int k)).set j v)
 | .G l,v=>.G (l.set j v)
 | .F f n,v=>.F (fun i=>if i=j then (if pureV v then v else .undef) else f i) n
 | .M l,v=>.M (setM l j v)
def Row.setAll (r:Row) (j:Nat):List AV→Row
 | []=>r
 | v::l=>(r.set j v).setAll (j+1) l
def Row.appI (r s:Row):Option Row :=
 match r.ints,s.ints with
 | some (k,z),some (k',z')=>if k'=k then some (.M [.arr k (fun i=>if i<r.len then z i else z' (i-r.len)) (r.len+s.len)]) else none
 | _,_=>none
def normS:AV→AV
 | .slcT none (.I k l) sz m _=>.slcT none (.M [.arr k (fun j=>l.getD j 0) l.length]) sz m false
 | .slcT none (.M [.arr k z n]) sz m _=>.slcT none (.M [.arr k z n]) sz m false
 | v=>v
def lastX (n i:Nat):Nat:=if Nat.beq n 1 then 0 else i
def Row.app (r s:Row):Row :=
 match r,s with
 | .M l,s=>(match (Row.M l).appI s with | some q=>q | none=>.G ((Row.M l).toList++s.toList))
 | .I k l,.M m=>(match (Row.I k l).appI (.M m) with | some q=>q | none=>.G ((Row.I k l).toList++(Row.M m).toList))
 | .I k l,.I k' l'=>if k'=k then .I k (l++l') else .G (l.map (.int k)++l'.map (.int k'))
 | .F f n,s=>.F (fun i=>if Nat.blt i n then f i else if pureV (s.get (lastX s.len (i-n))) then normS (s.get (lastX s.len (i-n))) else .undef) (n+s.len)
 | r,s=>.G (r.toList++s.toList)

def upS (k:Nat):AV→AV
 | .ptr d i v off=>.ptr (d+k) i v off
 | .ptrT s r off=>.ptrT (s.map (· + k)) r off
 | .slc d i v off sz len cap=>.slc (d+k) i v off sz len cap
 | .slcT s r sz len full=>.slcT (s.map (· + k)) r sz len full
 | .map d i=>.map (d+k) i
 | .yld d i=>.yld (d+k) i
 | .agg (.I a l)=>.agg (.I a l)
 | .fn _ _ _ | .agg _ | .tup (_::_)=>.undef
 | v=>v
def upV' (k:Nat) (v:AV):AV :=
 match v with
 | .fn f a b=>.fn f (a.map (upS k)) (b.map (upS k))
 | .agg (.G l)=>.agg (.G (l.map (upS k)))
 | .agg (.M l)=>.agg (.M (mapM' (upS k) l))
 | .agg r=>.agg r
 | v=>upS k v
def upV (k:Nat) (v:AV):AV :=
 match k with
 | 0=>v
 | k+1=>upV' (k+1) v
def upR' (k:Nat):Row→Row
 | .I a l=>.I a l
 | .G l=>.G (l.map (upS k))
 | .F f n=>.F f n
 | .M l=>.M (mapM' (upS k) l)
def upR (k:Nat) (r:Row):Row :=
 match k with
 | 0=>r
 | k+1=>upR' (k+1) r
def dnS:Nat→Nat→AV→AV
 | 0,_,_=>.undef
 | n + 1,k,v=>match v with
   | .ptr d i v off=>if Nat.blt d k then .undef else .ptr (d-k) i v off
   | .ptrT none r off=>.ptrT none r off
   | .ptrT (some s) r off=>if Nat.blt s k then (match r with
     | .G l=>.ptrT (some 0) (.G (l.map (dnS n (k-s)))) off
     | .M l=>if arrs l then .ptrT none (.M l) off else .ptrT (some 0) (.M (mapM' (dnS n (k-s)) l)) off
     | r=>.ptrT none r off) else .ptrT (some (s-k)) r off
   | .slc d i v off sz len cap=>if Nat.blt d k then .undef else .slc (d-k) i v off sz len cap
   | .slcT none r sz len full=>.slcT none r sz len full
   | .slcT (some s) r sz len full=>if Nat.blt s k then (match r with
     | .G l=>.slcT (some 0) (.G (l.map (dnS n (k-s)))) sz len full
     | .M l=>if arrs l then .slcT none (.M l) sz len full else .slcT (some 0) (.M (mapM' (dnS n (k-s)) l)) sz len full
     | r=>.slcT none r sz len full) else .slcT (some (s-k)) r sz len full
   | .map d i=>if Nat.blt d k then .undef else .map (d-k) i
   | .yld d i=>if Nat.blt d k then .undef else .yld (d-k) i
   | .agg (.I a l)=>.agg (.I a l)
   | .fn _ _ _ | .agg _ | .tup (_::_)=>.undef
   | v=>v
def dnV' (k:Nat) (v:AV):AV :=
 match v with
 | .fn f a b=>.fn f (a.map (dnS 4 k)) (b.map (dnS 4 k))
 | .agg (.G l)=>.agg (.G (l.map (dnS 4 k)))
 | .agg (.M l)=>.agg (.M (mapM' (dnS 4 k) l))
 | .agg r=>.agg r
 | v=>dnS 4 k v
def dnV (k:Nat) (v:AV):AV :=
 match k with
 | 0=>v
 | k+1=>dnV' (k+1) v
def dnR' (k:Nat):Row→Row
 | .I a l=>.I a l
 | .G l=>.G (l.map (dnS 4 k))
 | .F f n=>.F f n
 | .M l=>.M (mapM' (dnS 4 k) l)

def dnR (k:Nat) (r:Row):Row :=
 match k with
 | 0=>r
 | k+1=>dnR' (k+1) r

abbrev Frm:=List (Nat×AV)
def fGet:Frm→Nat→AV
 | [],_=>.undef
 | (x,v)::r,y=>if Nat.beq x y then v else fGet r y
def fPut:Frm→Nat→AV→Frm
 | [],y,u=>[(y,u)]
 | (x,v)::r,y,u=>if Nat.ble y x then (if Nat.beq x y then (y,u)::r else (y,u)::(x,v)::r) else (x,v)::fPut r y u
def memS (m x:Nat):Bool:=Nat.beq (Nat.land (Nat.shiftRight m x) 1) 1
noncomputable def fKill (fr:Frm) (m:Nat):Frm:=List.rec (motive:=fun _=>Frm) [] (fun p _ ih=>Prod.rec (motive:=fun _=>Frm) (fun x _=>Bool.rec (motive:=fun _=>Frm) (p::ih) ih (Nat.beq (Nat.land (Nat.shiftRight m x) 1) 1)) p) fr

structure ALoop where
 state:LoopState
 pending:Option Code
 fn:FuncId
 nt:Nat
 fr:Frm
 params:List Tmp
 assign:Code
 body:Code

inductive KK where
 | num (k:IntKind)
 | str (n:Nat)
inductive Blk where
 | dead
 | row (r:Row)
 | map (es:List (AV×AV))
 | fmap (q:KK) (h:List Int→Bool) (g:List Int→Int) (c:Nat)
 | loop (l:ALoop)

structure Lvl where
 lock:Bool
 bs:List (Nat×Blk)
abbrev Heap:=List Lvl

def nthBlk:List (Nat×Blk)→Nat→Nat×Blk
 | [],_=>(0,.dead)
 | b::_,0=>b
 | _::r,i+1=>nthBlk r i
def setBlk:List (Nat×Blk)→Nat→Nat×Blk→List (Nat×Blk)
 | [],_,_=>[]
 | _::r,0,x=>x::r
 | b::r,i+1,x=>b::setBlk r i x
def hGet:Heap→Nat→Nat→Nat×Blk
 | [],_,_=>(0,.dead)
 | l::_,0,i=>nthBlk l.bs i
 | _::r,d+1,i=>hGet r d i
def hLock:Heap→Nat→Bool
 | [],_=>true
 | l::_,0=>l.lock
 | _::r,d+1=>hLock r d
def hSet:Heap→Nat→Nat→Nat×Blk→Heap
 | [],_,_,_=>[]
 | l::r,0,i,x=>{ l with bs:=setBlk l.bs i x } :: r
 | l::r,d+1,i,x=>l::hSet r d i x
def hKill (H:Heap) (d i:Nat):Heap:=hSet H d i ((hGet H d i).1,.dead)
def hPush:Heap→Blk→Heap
 | [],b=>[⟨false,[(0,b)]⟩]
 | l::r,b=>{ l with bs:=l.bs++[(0,b)] } :: r
def hPushAt:Heap→Nat→Blk→Heap
 | [],_,_=>[]
 | l::r,0,b=>{ l with bs:=l.bs++[(0,b)] } :: r
 | l::r,d+1,b=>l::hPushAt r d b
def hNextAt:Heap→Nat→Nat
 | [],_=>0
 | l::_,0=>l.bs.length
 | _::r,d+1=>hNextAt r d
def hNext:Heap→Nat
 | []=>0
 | l::_=>l.bs.length
def hLockAll:Heap→Heap
 | []=>[]
 | l::r=>{ l with lock:=true } :: hLockAll r

def hRow (H:Heap) (d i v:Nat):Option Row :=
 match hGet H d i with
 | (ver,.row r)=>if Nat.beq ver v then some r else none
 | _=>none

def constS:Value→AV
 | .bool b=>.bool b
 | .int k n=>.int k n
 | .string s=>.str s
 | .pointer none=>.nilp
 | .slice none 0 0=>.nils
 | .map none=>.nilm
 | .nilFunc=>.nilf
 | _=>.undef
def constV:Value→AV
 | .bool b=>.bool b
 | .int k n=>.int k n
 | .string s=>.str s
 | .pointer none=>.nilp
 | .slice none 0 0=>.nils
 | .map none=>.nilm
 | .nilFunc=>.nilf
 | .func (.func f) ca cb=>if ca.isEmpty && cb.isEmpty then .fn (.func f) [] [] else .undef
 | .agg cs=>if cs.toList.all Value.oneCell' then .agg (Row.ofList (cs.toList.map constS)) else .undef
 | .tuple cs=>if cs.isEmpty then .tup [] else .undef
 | _=>.undef

def opd (fr:Frm):Operand→AV
 | .tmp t=>fGet fr t
 | .const v=>constV v
 | .global _=>.undef
 | .func f=>.fn (.func f) [] []

def AV.row:AV→Option Row
 | .agg r=>some r
 | .int k n=>some (.I k [n])
 | .undef | .tup _=>none
 | v=>some (.G [v])

def aggT (P:Program) (t:TypeId):Option Bool :=
 match P.underlying t with
 | some (.struct _) | some (.array _ _)=>some true
 | some _=>some false
 | none=>none
def sizeT (P:Program) (t:TypeId):Option Nat:=(P.info? t).map (·.size)
def zeroT (P:Program) (t:TypeId):Option AV:=((P.info? t).bind (·.zero)).map constV

inductive Delta where
 | keep
 | push (b:Blk)
 | set (d i:Nat) (b:Nat×Blk)
 | heap (H:Heap)
def Delta.on (δ:Delta) (H:Heap):Heap :=
 match δ with
 | .keep=>H
 | .push b=>hPush H b
 | .set d i b=>hSet H d i b
 | .heap H=>H

inductive Tgt where
 | fn (f:FuncId)
 | round (d i:Nat)
 | mode
abbrev CallT:=Tgt→List AV→Heap→Option (AV×Heap)

def intBin (op:BinOp) (k:IntKind) (x y:Int):Option AV :=
 match op with
 | .add=>some (.int k (k.wrap (x+y)))
 | .sub=>some (.int k (k.wrap (x-y)))
 | .mul=>some (.int k (k.wrap (x*y)))
 | .quo=>if y=0 then none else some (.int k (k.wrap (x.tdiv y)))
 | .rem=>if y=0 then none else some (.int k (x.tmod y))
 | .and=>some (.int k (k.wrap (BitVec.ofInt k.bits x &&& BitVec.ofInt k.bits y).toNat))
 | .or=>some (.int k (k.wrap (BitVec.ofInt k.bits x ||| BitVec.ofInt k.bits y).toNat))
 | .xor=>some (.int k (k.wrap (BitVec.ofInt k.bits x ^^^ BitVec.ofInt k.bits y).toNat))
 | .andNot=>some (.int k (k.wrap (BitVec.ofInt k.bits x &&& ~~~(BitVec.ofInt k.bits y)).toNat))
 | .eql=>some (.bool (x == y))
 | .neq=>some (.bool (x != y))
 | .lss=>some (.bool (x<y))
 | .leq=>some (.bool (x≤y))
 | .gtr=>some (.bool (x > y))
 | .geq=>some (.bool (x≥y))
 | _=>none

def flatFs (P:Program) (g:TypeId→Option Nat) (off:Nat):List Field→Option Nat
 | []=>some off
 | f::fs=>if f.name != "_" && Nat.beq f.offset off then (match g f.type with
   | some s=>flatFs P g (off+s) fs
   | none=>none) else none
def flatN (P:Program):Nat→TypeId→Option Nat
 | 0,_=>none
 | n + 1,t=>match P.underlying t with
   | some (.int _)=>if sizeT P t=some 1 then some 1 else none
   | some (.array len e)=>match flatN P n e with
     | some s=>if sizeT P t=some (len*s) then some (len*s) else none
     | none=>none
   | some (.struct fs)=>if P.stoodInHeld t then none else match flatFs P (flatN P n) 0 fs.toList with
     | some s=>if sizeT P t=some s then some s else none
     | none=>none
   | _=>none

def listEq:List Int→List Int→Bool
 | [],[]=>true
 | x::a,y::b=>(x == y) && listEq a b
 | _,_=>false

def allEq (z z':Nat→Int):Nat→Bool
 | 0=>true
 | n+1=>allEq z z' n && (z n == z' n)
def eqM (P:Program) (t:TypeId) (r s:Row):Option Bool :=
 match r.ints,s.ints with
 | some (k,z),some (k',z')=>if k=k'∧flatN P 20 t=some r.len∧aggT P t=some true∧r.len=s.len then some (allEq z z' r.len) else none
 | _,_=>none
def eqV (P:Program) (t:TypeId) (x y:AV):Option Bool :=
 match x,y with
 | .bool a,.bool b=>(match P.underlying t with | some .bool=>some (a == b) | _=>none)
 | .nils,.nils | .nils,.slcT .. | .nils,.slc .. | .slcT ..,.nils | .slc ..,.nils =>
   (match P.underlying t with
   | some (.slice _)=>(match x,y with
     | .nils,.nils=>some true
     | .nils,.slcT _ _ _ n _=>if 0<n then some false else none
     | .slcT _ _ _ n _,.nils=>if 0<n then some false else none
     | _,_=>some false)
   | _=>none)
 | .nilp,.nilp | .nilp,.ptr .. | .nilp,.ptrT .. | .ptr ..,.nilp | .ptrT ..,.nilp =>
   (match P.underlying t with
   | some (.pointer _)=>some (match x,y with | .nilp,.nilp=>true | _,_=>false)
   | _=>none)
 | .agg (.I k a),.agg (.I k' b)=>if k=k'∧flatN P 20 t=some a.length∧aggT P t=some true∧a.length=b.length then some (listEq a b) else none
 | .agg (.M l),.agg s=>eqM P t (.M l) s
 | .agg (.I k a),.agg (.M l)=>eqM P t (.I k a) (.M l)
 | _,_=>none

def binV (P:Program) (op:BinOp) (t:TypeId) (x y:AV):Option AV :=
 match op,x,y with
 | .shl,.int k a,.int _ b=>if b<0 then none else some (.int k (k.wrap (a*2 ^ (min b.toNat k.bits))))
 | .shr,.int k a,.int _ b=>if b<0 then none else some (.int k (a.fdiv (2 ^ (min b.toNat k.bits))))
 | op,.int k a,.int k' b=>if k=k' then intBin op k a b else none
 | .eql,x,y=>(eqV P t x y).map .bool
 | .neq,x,y=>(eqV P t x y).map fun b=>.bool (!b)
 | _,_,_=>none

def unV (op:UnOp) (x:AV):Option AV :=
 match op,x with
 | .not,.bool b=>some (.bool !b)
 | .neg,.int k n=>some (.int k (k.wrap (0-n)))
 | _,_=>none

def reps {α:Type} (l:List α):Nat→List α
 | 0=>[]
 | n+1=>l++reps l n
def zerosR (z:Row) (n:Nat):Row :=
 match z with
 | .I k l=>.I k (reps l n)
 | z=>.G (reps z.toList n)
def fnOf (l:List AV) (n:Nat):Row :=
 match l with
 | [v]=>if pureV v then .F (fun _=>v) n else .G (reps l n)
 | l=>.G (reps l n)
def zerosS (z:Row) (n:Nat):Row :=
 match z with
 | .I k l=>if allZ l then .M [.arr k (fun _=>0) (n*l.length)] else .I k (reps l n)
 | z=>fnOf z.toList n
def segR (r:Row):Row :=
 match r with
 | .I k l=>if Nat.ble 8 l.length then .M [.arr k (zfn l) l.length] else .I k l
 | .G l=>if (segsOf l.length l).length == l.length then .G l else .M (segsOf l.length l)
 | r=>r
def copZ (z:Nat→Int) (off:Nat) (z':Nat→Int) (n:Nat):Nat→Int:=fun i=>if off≤i∧i<off+n then z' (i-off) else z i
def putM:List Seg→Nat→Nat→List Seg→Option (List Seg)
 | [],_,_,_=>none
 | .one v::r,o+1,n,q=>(putM r o n q).map (.one v::·)
 | .one _::_,0,_,_=>none
 | .arr k z m::r,o,n,q=>if Nat.beq o 0 && Nat.beq m n then some (q++r) else if Nat.ble m o then (putM r (o-m) n q).map (.arr k z m::·) else none
def segsR (q:Row):Option (List Seg) :=
 match segR q with
 | .M l=>some l
 | _=>none
def putG (l:List Seg) (off:Nat) (q:Row):Row :=
 if Nat.ble 9 q.len then (match segsR q with
  | some qs=>if Nat.beq off 0 && Nat.beq (lenM l) q.len then .M qs else (match putM l off q.len qs with
    | some l'=>.M l'
    | none=>(Row.M l).setAll off q.toList)
  | none=>(Row.M l).setAll off q.toList)
 else (Row.M l).setAll off q.toList
def putA (r:Row) (off:Nat) (q:Row):Row :=
 match r with
 | .M l=>(match l with
   | [.arr k z m]=>(match q with
     | .M [.arr k' z' n]=>if k'=k then .M [.arr k (copZ z off z' n) m] else putG l off q
     | _=>putG l off q)
   | _=>putG l off q)
 | r=>r.setAll off q.toList
def isSl1:AV→Bool
 | .slcT none (.M [.arr _ _ _]) _ _ _=>true
 | .slcT none (.I _ _) _ _ _=>true
 | _=>false
def finR (sy:Bool) (r:Row):Row :=
 match r with
 | .I k l=>if sy then .M [.arr k (fun j=>l.getD j 0) l.length] else .I k l
 | .G [v]=>if sy && isSl1 v then .F (fun _=>normS v) 1 else .G [v]
 | r=>r
def fillA (place:Nat→Option (Nat×Nat)) (r:Row):List (Nat×AV)→Option Row
 | []=>some r
 | (i,v)::rest=>match place i with
   | none=>none
   | some (off,size)=>match v.row with
     | some q=>if q.len=size∧off+q.len≤r.len then fillA place (r.setAll off q.toList) rest else none
     | none=>none

def readV (P:Program) (t:TypeId) (r:Row) (off:Nat):Option AV :=
 match aggT P t,sizeT P t with
 | some true,some n=>if off+n≤r.len then some (.agg (r.cut off n)) else none
 | some false,_=>if off<r.len then some (r.get off) else none
 | _,_=>none

def upO (s:Option Nat) (v:AV):AV :=
 match s with
 | none=>v
 | some k=>upV k v

def loadV (P:Program) (H:Heap) (t:TypeId) (a:AV):Option AV :=
 match a with
 | .ptr d i v off=>match hRow H d i v with
   | some r=>(readV P t r off).map (upV d)
   | none=>none
 | .ptrT s r off=>(readV P t r off).map (upO s)
 | _=>none

def storeV (P:Program) (H:Heap) (t:TypeId) (a x:AV):Option Delta :=
 match a with
 | .ptr d i v off =>
   if hLock H d then none else
   match hRow H d i v,sizeT P t,x.row with
   | some r,some n,some q =>
     if q.len=n∧off+n≤r.len then
      match d,x with
      | d+1,.slc 0 j w o sz len cap=>if hLock H 0 then none else match hRow H 0 j w with
        | some q=>some (.heap (hPushAt (hSet (hKill H 0 j) (d+1) i (v,.row (r.set off (.slc 0 (hNextAt H (d+1)) 0 o sz len cap)))) (d+1) (.row (dnR (d+1) q))))
        | none=>none
      | _,_=>some (.set d i (v,.row (putA r off (dnR d q))))
     else none
   | _,_,_=>none
 | _=>none

def placesT (P:Program):List Field→Option (List (Nat×Nat))
 | []=>some []
 | f::fs=>match sizeT P f.type,placesT P fs with
   | some n,some l=>some ((f.offset,n)::l)
   | _,_=>none

def buildV (P:Program) (sy:Bool) (t:TypeId) (parts:List (Nat×AV)):Option AV :=
 match zeroT P t,P.underlying t with
 | some (.agg z),some (.struct fs)=>match placesT P fs.toList with
   | some l=>(fillA (fun i=>l[i]?) (if sy then segR z else z) parts).map .agg
   | none=>none
 | some (.agg z),some (.array _ e)=>match sizeT P e with
   | some n=>(fillA (fun i=>some (i*n,n)) (if sy then segR z else z) parts).map .agg
   | none=>none
 | _,_=>none

def addOff (a:AV) (n:Nat):Option AV :=
 match a with
 | .ptr d i v off=>some (.ptr d i v (off+n))
 | .ptrT s r off=>some (.ptrT s r (off+n))
 | _=>none

def fieldAddrV (P:Program) (t:TypeId) (a:AV) (f:Nat):Option AV :=
 match P.underlying t with
 | some (.struct fs)=>match fs[f]? with
   | some g=>match sizeT P g.type with
     | some (_+1)=>addOff a g.offset
     | _=>none
   | none=>none
 | _=>none

def indexAddrV (P:Program) (t:TypeId) (x:AV) (i:Int):Option AV :=
 match P.underlying t,x with
 | some (.array n e),x=>match sizeT P e with
   | some z=>if 0≤i∧i<n then addOff x (i.toNat*z) else none
   | none=>none
 | some (.slice e),.slc d j v off sz len _ =>
   if 0≤i∧i<len∧sizeT P e=some sz then some (.ptr d j v (off+i.toNat*sz)) else none
 | some (.slice e),.slcT s r sz len _ =>
   if 0≤i∧i<len∧sizeT P e=some sz then some (.ptrT s r (i.toNat*sz)) else none
 | _,_=>none

def indexV (P:Program) (t:TypeId) (x:AV) (i:Int):Option AV :=
 match P.underlying t,x with
 | some (.array n e),.agg r=>match sizeT P e with
   | some z=>if 0≤i∧i<n then readV P e r (i.toNat*z) else none
   | none=>none
 | some .string,.str s=>if 0≤i then (match s[i.toNat]? with
   | some b=>some (.int .u8 b.toNat)
   | none=>none) else none
 | _,_=>none

def fieldV (P:Program) (t:TypeId) (x:AV) (f:Nat):Option AV :=
 match P.underlying t,x with
 | some (.struct fs),.agg r=>match fs[f]? with
   | some g=>readV P g.type r g.offset
   | none=>none
 | _,_=>none

def bound (o:Option AV) (dflt top:Nat):Option Nat :=
 match o with
 | none=>some dflt
 | some (.int _ i)=>if 0≤i∧i≤top then some i.toNat else none
 | some _=>none

def boundsV (lo hi mx:Option AV) (len:Nat):Option (Nat×Nat×Option Nat) :=
 match mx with
 | none=>match bound hi len len with
   | some h=>match bound lo 0 h with
     | some l=>some (l,h,none)
     | none=>none
   | none=>none
 | some a=>match bound (some a) 0 len with
   | some m=>if hi.isSome then (match bound hi len m with
     | some h=>match bound lo 0 h with
       | some l=>some (l,h,some m)
       | none=>none
     | none=>none) else none
   | none=>none

def sliceV (P:Program) (t:TypeId) (x:AV) (lo hi mx:Option AV):Option AV :=
 match P.underlying t,x with
 | some (.slice e),.slc d j v off sz len cap =>
   match boundsV lo hi mx len with
   | some (l,h,mm)=>if sizeT P e=some sz then
      some (.slc d j v (off+l*sz) sz (h-l) (match mm with | none=>cap.map (· - l) | some m=>some (m-l))) else none
   | none=>none
 | some (.slice e),.slcT s r sz len full =>
   match boundsV lo hi mx len with
   | some (l,h,mm)=>if sizeT P e=some sz∧l*sz+(h-l)*sz≤r.len then
      some (.slcT s (r.sub (l*sz) ((h-l)*sz)) sz (h-l) (match mm with | none=>full && Nat.beq h len | some m=>Nat.beq h m)) else none
   | none=>none
 | some (.slice e),.nils =>
   match boundsV lo hi mx 0,sizeT P e with
   | some _,some _=>some .nils
   | _,_=>none
 | some (.array n e),.ptr d j v off =>
   match boundsV lo hi mx n with
   | some (l,h,mm)=>match sizeT P e with
     | some sz=>some (.slc d j v (off+l*sz) sz (h-l) (match mm with | none=>some (n-l) | some m=>some (m-l)))
     | none=>none
   | none=>none
 | _,_=>none

def lenV (P:Program) (H:Heap) (t:TypeId) (x:AV):Option Int :=
 match P.underlying t,x with
 | some (.array n _),_=>some n
 | some (.slice _),.nils=>some 0
 | some (.slice _),.slc _ _ _ _ _ len _=>some len
 | some (.slice _),.slcT _ _ _ len _=>some len
 | some (.map _ _),.nilm=>some 0
 | some (.map _ _),.map d i=>match hGet H d i with
   | (0,.map es)=>some es.length
   | (0,.fmap _ _ _ c)=>some c
   | _=>none
 | _,_=>none

def capV (P:Program) (t:TypeId) (x:AV):Option Int :=
 match P.underlying t,x with
 | some (.slice _),.nils=>some 0
 | some (.slice _),.slc _ _ _ _ _ _ (some c)=>some c
 | _,_=>none

def cellsV (H:Heap) (sz n:Nat) (x:AV):Option Row :=
 match x with
 | .nils=>if n=0 then some (.G []) else none
 | .slc d i v off sz' len _=>match hRow H d i v with
   | some r=>if sz'=sz∧n≤len∧off+n*sz≤r.len then some (upR d (r.sub off (n*sz))) else none
   | none=>none
 | .slcT s r sz' len _=>if sz'=sz∧n≤len∧n*sz≤r.len then some (match s with | none=>r.sub 0 (n*sz) | some k=>upR k (r.sub 0 (n*sz))) else none
 | _=>none
def lenS:AV→Option Nat
 | .nils=>some 0
 | .slc _ _ _ _ _ len _=>some len
 | .slcT _ _ _ len _=>some len
 | _=>none

def room:Nat:=2 ^ 46

def appN (P:Program) (sy:Bool) (nx:Nat) (e:TypeId) (s x:AV):Option (AV×Delta) :=
 match P.info? e,s,x with
 | some inf,.nils,.int _ k =>
   if 0≤k∧k.toNat≤room∧k.toNat*inf.bytes≤room∧0<inf.size∧((zeroT P e).bind AV.row).map Row.len=some inf.size then
    (if k=0 then some (.nils,.keep) else some (.slc 0 nx 0 0 inf.size k.toNat none,.push (.row (finR sy (.I .i64 [])))))
   else none
 | _,_,_=>none
def appendV (P:Program) (sy:Bool) (H:Heap) (nx:Nat) (t u:TypeId) (s x:AV):Option (AV×Delta) :=
 match P.underlying t,P.underlying u with
 | some (.slice e),some (.int _)=>appN P sy nx e s x
 | some (.slice e),some (.slice _) =>
   match P.info? e,lenS s,lenS x with
   | some inf,some m,some n =>
     if n=0 then (match s,x with
      | .nils,_=>some (s,.keep)
      | .slc ..,_=>some (s,.keep)
      | .slcT ..,_=>some (s,.keep)
      | _,_=>none)
     else if (m+n)*inf.bytes≤room∧(m+n)≤room∧0<inf.bytes∧((zeroT P e).bind AV.row).map Row.len=some inf.size then
      match cellsV H inf.size n x with
      | none=>none
      | some new =>
        match s with
        | .nils=>some (.slc 0 nx 0 0 inf.size n none,.push (.row (finR sy new)))
        | .slcT _ _ _ _ true=>match cellsV H inf.size m s with
          | some old=>some (.slc 0 nx 0 0 inf.size (m+n) none,.push (.row (finR sy (old.app new))))
          | none=>none
        | .slc d i v off sz _ (some c) =>
          if c<m+n then
           match cellsV H inf.size m s with
           | some old=>some (.slc 0 nx 0 0 inf.size (m+n) none,.push (.row (finR sy (old.app new))))
           | none=>none
          else if hLock H d then none else
           match hRow H d i v with
           | some r=>if sz=inf.size∧off+(m+n)*sz≤r.len then
              some (.slc d i v off sz (m+n) (some c),.set d i (v,.row (r.setAll (off+m*sz) (dnR d new).toList)))
             else none
           | none=>none
        | .slc d i v off sz _ none =>
          if hLock H d then none else
          match hRow H d i v with
          | some r=>if sz=inf.size∧off+m*sz=r.len then
             some (.slc d i (v+1) 0 sz (m+n) none,.set d i (v+1,.row ((r.sub off (m*sz)).app (dnR d new))))
            else none
          | none=>none
        | _=>none
     else none
   | _,_,_=>none
 | _,_=>none

def copyV (P:Program) (H:Heap) (t:TypeId) (s x:AV):Option (AV×Delta) :=
 match P.underlying t with
 | some (.slice e) =>
   match sizeT P e,lenS s,lenS x with
   | some z,some m,some n =>
     match cellsV H z (min n m) x with
     | none=>none
     | some new =>
       match s with
       | .nils=>some (.int .i64 (min n m:Nat),.keep)
       | .slc d i v off sz _ _ =>
         if hLock H d then none else
         match hRow H d i v with
         | some r=>if sz=z∧off+(min n m)*sz≤r.len then
            some (.int .i64 (min n m:Nat),.set d i (v,.row (putA r off (dnR d new))))
           else none
         | none=>none
       | _=>none
   | _,_,_=>none
 | _=>none

def clearV (P:Program) (H:Heap) (t:TypeId) (s:AV):Option (AV×Delta) :=
 match P.underlying t,s with
 | some (.slice _),.nils=>some (.tup [],.keep)
 | some (.slice e),.slc d i v off sz len _ =>
   if hLock H d then none else
   match (zeroT P e).bind AV.row,hRow H d i v with
   | some z,some r=>if z.len=sz∧sizeT P e=some sz∧off+len*sz≤r.len then
      some (.tup [],if len=0 then .keep else .set d i (v,.row (if isM r then putA r off (zerosS z len) else r.setAll off (zerosR z len).toList)))
     else none
   | _,_=>none
 | _,_=>none

def minmaxFrom (mx:Bool) (k:IntKind) (x:Int):List AV→Option AV
 | []=>some (.int k x)
 | .int k' y::r=>if k=k' then minmaxFrom mx k (if mx then (if y > x then y else x) else (if y<x then y else x)) r else none
 | _=>none
def minmax (mx:Bool):List AV→Option AV
 | .int k x::r=>minmaxFrom mx k x r
 | _=>none

def makeSliceV (P:Program) (sy:Bool) (nx:Nat) (t:TypeId) (l c:AV):Option (AV×Delta) :=
 match P.underlying t,l,c with
 | some (.slice e),.int _ l,.int _ c =>
   match P.info? e,(zeroT P e).bind AV.row with
   | some inf,some z =>
     if 0≤l∧l≤c∧c.toNat*inf.bytes≤room∧c.toNat≤room∧z.len=inf.size then
      some (.slc 0 nx 0 0 inf.size l.toNat (some c.toNat),.push (.row (if sy then zerosS z c.toNat else zerosR z c.toNat)))
     else none
   | _,_=>none
 | _,_,_=>none

def buildSliceV (P:Program) (nx:Nat) (t:TypeId) (len:Nat) (parts:List (Nat×AV)):Option (AV×Delta) :=
 match P.underlying t with
 | some (.slice e)=>match sizeT P e,(zeroT P e).bind AV.row with
   | some z,some zv =>
     if len*z≤2 ^ 24∧zv.len=z then
      (fillA (fun i=>some (i*z,z)) (zerosR zv len) parts).map fun r=>(.slc 0 nx 0 0 z len (some len),.push (.row r))
     else none
   | _,_=>none
 | _=>none

def keyEq (x y:AV):Option Bool :=
 match x,y with
 | .int k a,.int k' b=>if k=k' then some (a == b) else none
 | .agg (.I k a),.agg (.I k' b)=>if k=k'∧a.length=b.length then some (listEq a b) else none
 | _,_=>none
def findA (key:AV):List (AV×AV)→Nat→Option (Option Nat)
 | [],_=>some none
 | (k,_)::r,i=>match keyEq key k with
   | some true=>some (some i)
   | some false=>findA key r (i+1)
   | none=>none
def keyFit (P:Program) (t:TypeId) (x:AV):Bool :=
 match P.underlying t,x with
 | some (.int _),.int _ _=>true
 | some (.array _ _),.agg (.I _ l)=>flatN P 20 t == some l.length
 | some (.struct _),.agg (.I _ l)=>flatN P 20 t == some l.length
 | _,_=>false
def entsV (H:Heap) (m:AV):Option (Nat×List (AV×AV)) :=
 match m with
 | .nilm=>some (0,[])
 | .map d i=>match hGet H d i with
   | (0,.map es)=>some (d,es)
   | _=>none
 | _=>none
def nthEnt:List (AV×AV)→Nat→AV
 | [],_=>.undef
 | e::_,0=>e.2
 | _::r,i+1=>nthEnt r i
def setEnt:List (AV×AV)→Nat→AV×AV→List (AV×AV)
 | [],_,_=>[]
 | _::r,0,x=>x::r
 | e::r,i+1,x=>e::setEnt r i x
def delEnt:List (AV×AV)→Nat→List (AV×AV)
 | [],_=>[]
 | _::r,0=>r
 | e::r,i+1=>e::delEnt r i
def fmapV (H:Heap) (m:AV):Option (KK×(List Int→Bool)×(List Int→Int)×Nat) :=
 match m with
 | .map d i=>match hGet H d i with
   | (0,.fmap q h g c)=>some (q,h,g,c)
   | _=>none
 | _=>none
def keyN:KK→AV→Option (List Int)
 | .num k,.int k' n=>if k=k' then some [n] else none
 | .str m,.agg (.I .i64 l)=>if Nat.beq l.length m then some l else none
 | _,_=>none
def kindK:AV→Option KK
 | .int k _=>some (.num k)
 | .agg (.I .i64 l)=>some (.str l.length)
 | _=>none
def numV:AV→Option Int
 | .int .i64 n=>some n
 | _=>none
def setB (h:List Int→Bool) (n:List Int) (b:Bool):List Int→Bool:=fun i=>if i=n then b else h i
def setI (g:List Int→Int) (n:List Int) (x:Int):List Int→Int:=fun i=>if i=n then x else g i
def cntA (b:Bool) (c:Nat):Nat:=cond b c (c+1)
def cntD (b:Bool) (c:Nat):Nat:=cond b (c-1) c
def newMap (P:Program) (t:TypeId):Blk :=
 match P.underlying t with
 | some (.map kt et)=>match (zeroT P kt).bind kindK,(zeroT P et).bind numV with
   | some q,some _=>.fmap q (fun _=>false) (fun _=>0) 0
   | _,_=>.map []
 | _=>.map []
def lookupV (P:Program) (H:Heap) (t:TypeId) (m key:AV) (ok:Bool):Option AV :=
 match P.underlying t with
 | some (.map kt et) =>
   if keyFit P kt key then
    match fmapV H m with
    | some (q,h,g,_)=>match keyN q key,(zeroT P et).bind numV with
      | some n,some 0=>some (if ok then .tup [.int .i64 (g n),.bool (h n)] else .int .i64 (g n))
      | _,_=>none
    | none=>match entsV H m,zeroT P et with
    | some (d,es),some z=>match findA key es 0 with
      | some (some i)=>some (if ok then .tup [upV d (nthEnt es i),.bool true] else upV d (nthEnt es i))
      | some none=>some (if ok then .tup [z,.bool false] else z)
      | none=>none
    | _,_=>none
   else none
 | _=>none
def updateV (P:Program) (H:Heap) (t:TypeId) (m key x:AV):Option Delta :=
 match P.underlying t,m with
 | some (.map kt _),.map d i =>
   if hLock H d then none else
   if keyFit P kt key then
    match hGet H d i with
    | (0,.fmap q h g c)=>match keyN q key,numV x with
      | some n,some y=>some (.set d i (0,.fmap q (setB h n true) (setI g n y) (cntA (h n) c)))
      | _,_=>none
    | (0,.map es)=>match findA key es 0 with
      | some (some j)=>some (.set d i (0,.map (setEnt es j (key,dnV d x))))
      | some none=>some (.set d i (0,.map (es++[(key,dnV d x)])))
      | none=>none
    | _=>none
   else none
 | _,_=>none
def deleteV (P:Program) (H:Heap) (t:TypeId) (m key:AV):Option (AV×Delta) :=
 match P.underlying t,m with
 | some (.map kt _),.map d i =>
   if hLock H d then none else
   if keyFit P kt key then
    match hGet H d i with
    | (0,.fmap q h g c)=>match keyN q key with
      | some n=>some (.tup [],.set d i (0,.fmap q (setB h n false) (setI g n 0) (cntD (h n) c)))
      | none=>none
    | (0,.map es)=>match findA key es 0 with
      | some (some j)=>some (.tup [],.set d i (0,.map (delEnt es j)))
      | some none=>some (.tup [],.set d i (0,.map es))
      | none=>none
    | _=>none
   else none
 | _,_=>none

def mapOpd (fr:Frm):List (Nat×Operand)→List (Nat×AV)
 | []=>[]
 | (i,x)::r=>(i,opd fr x)::mapOpd fr r
def opds (fr:Frm):List Operand→List AV
 | []=>[]
 | x::r=>opd fr x::opds fr r

def symB {α:Type} (call:CallT) (a b:α):α :=
 match call .mode [] [] with
 | some _=>a
 | none=>b
def callV (P:Program) (call:CallT) (fr:Frm) (H:Heap) (nx:Nat) (c:Call):Option (AV×Delta) :=
 match c.callee with
 | .value f=>match opd fr f with
   | .fn (.func g) a b=>(call (.fn g) (a++(opds fr c.args.toList++b)) H).map fun (v,H)=>(v,.heap H)
   | .yld d i=>(call (.round d i) (opds fr c.args.toList) H).map fun (v,H)=>(v,.heap H)
   | _=>none
 | .builtin .len=>match c.args.toList,c.argTypes.toList with
   | x::_,t::_=>(lenV P H t (opd fr x)).map fun n=>(.int .i64 n,.keep)
   | _,_=>none
 | .builtin .cap=>match c.args.toList,c.argTypes.toList with
   | x::_,t::_=>(capV P t (opd fr x)).map fun n=>(.int .i64 n,.keep)
   | _,_=>none
 | .builtin .append=>match c.args.toList,c.argTypes.toList with
   | s::x::_,t::u::_=>appendV P (symB call true false) H nx t u (opd fr s) (opd fr x)
   | _,_=>none
 | .builtin .copy=>match c.args.toList,c.argTypes.toList with
   | s::x::_,t::_=>copyV P H t (opd fr s) (opd fr x)
   | _,_=>none
 | .builtin .clear=>match c.args.toList,c.argTypes.toList with
   | s::_,t::_=>clearV P H t (opd fr s)
   | _,_=>none
 | .builtin .delete=>match c.args.toList,c.argTypes.toList with
   | m::k::_,t::_=>deleteV P H t (opd fr m) (opd fr k)
   | _,_=>none
 | .builtin .min=>(minmax false (opds fr c.args.toList)).map fun v=>(v,.keep)
 | .builtin .max=>(minmax true (opds fr c.args.toList)).map fun v=>(v,.keep)
 | _=>none

def kp (o:Option AV):Option (AV×Delta):=o.map fun v=>(v,.keep)

def evalOp (P:Program) (call:CallT) (fr:Frm) (H:Heap) (nx:Nat) (o:Oper):Option (AV×Delta) :=
 match o.op with
 | .move x | .assign x=>some (opd fr x,.keep)
 | .pick c a b=>match opd fr c with
   | .bool t=>some (if t then opd fr a else opd fr b,.keep)
   | _=>none
 | .alloc t=>((zeroT P t).bind AV.row).map fun z=>(.ptr 0 nx 0 0,.push (.row (symB call (segR z) z)))
 | .box _ x=>(opd fr x).row.map fun r=>(.ptr 0 nx 0 0,.push (.row (symB call (segR r) r)))
 | .build t parts=>kp (buildV P (symB call true false) t (mapOpd fr parts.toList))
 | .buildSlice t len parts=>buildSliceV P nx t len (mapOpd fr parts.toList)
 | .load t a=>kp (loadV P H t (opd fr a))
 | .store t a x=>(storeV P H t (opd fr a) (opd fr x)).map fun δ=>(.tup [],δ)
 | .nilCheck x=>match opd fr x with
   | .ptr d i v off=>some (.ptr d i v off,.keep)
   | .ptrT s r off=>some (.ptrT s r off,.keep)
   | _=>none
 | .binOp op t x y _=>kp (binV P op t (opd fr x) (opd fr y))
 | .unOp op _ x=>kp (unV op (opd fr x))
 | .convert src dst x=>match P.underlying src,P.underlying dst,opd fr x with
   | some _,some (.int k),.int _ n=>some (.int k (k.wrap n),.keep)
   | _,_,_=>none
 | .makeFunc fn first cap=>match fn with
   | .func g=>some (.fn (.func g) (opds fr first.toList) (opds fr cap.toList),.keep)
   | _=>none
 | .makeSlice t l c=>makeSliceV P (symB call true false) nx t (opd fr l) (opd fr c)
 | .slice t x lo hi mx=>kp (sliceV P t (opd fr x) (lo.map (opd fr)) (hi.map (opd fr)) (mx.map (opd fr)))
 | .fieldAddr t x f=>kp (fieldAddrV P t (opd fr x) f)
 | .field t x f=>kp (fieldV P t (opd fr x) f)
 | .indexAddr t x i=>match opd fr i with
   | .int _ n=>kp (indexAddrV P t (opd fr x) n)
   | _=>none
 | .index t x i=>match opd fr i with
   | .int _ n=>kp (indexV P t (opd fr x) n)
   | _=>none
 | .makeMap t none=>some (.map 0 nx,.push (symB call (newMap P t) (.map [])))
 | .lookup t m k ok=>kp (lookupV P H t (opd fr m) (opd fr k) ok)
 | .mapUpdate t m k x | .insert t m k x=>(updateV P H t (opd fr m) (opd fr k) (opd fr x)).map fun δ=>(.tup [],δ)
 | .extract t ix=>match opd fr t with
   | .tup l=>match l[ix]? with
     | some v=>some (v,.keep)
     | none=>none
   | _=>none
 | .call c=>callV P call fr H nx c
 | _=>none

inductive Want where
 | run | skip | lost
def wantV (ops:Array Oper) (fr:Frm) (o:Oper):Want :=
 match o.guard with
 | none=>.run
 | some (j,want)=>match (ops[j]?).bind (·.dst) with
   | none=>.lost
   | some d=>match fGet fr d with
     | .bool b=>if b == want then .run else .skip
     | .tup _=>.skip
     | _=>.lost

def putO (nt:Nat) (fr:Frm) (dst:Option Tmp) (v:AV):Frm :=
 match dst with
 | some d=>if Nat.blt d nt then fPut fr d v else fr
 | none=>fr

def runOps (P:Program) (nt:Nat) (call:CallT) (ops:Array Oper):List Oper→Frm→Heap→Option (Frm×Heap)
 | [],fr,H=>some (fr,H)
 | o :: r,fr,H=>match wantV ops fr o with
   | .lost=>none
   | .skip=>runOps P nt call ops r (putO nt fr o.dst (.tup [])) H
   | .run=>match evalOp P call fr H (hNext H) o with
     | none=>none
     | some (v,δ)=>runOps P nt call ops r (putO nt fr o.dst v) (δ.on H)

inductive Touch where
 | none
 | blk (d i:Nat)
 | all
structure Rec where
 ix:Nat
 reads:Touch
 writes:Option (Nat×Nat)
def readsOf (fr:Frm) (o:Oper):Touch :=
 let at' (v:AV):Touch:=match v with
  | .ptr d i _ _=>.blk d i
  | .slc d i _ _ _ _ _=>.blk d i
  | .map d i=>.blk d i
  | _=>.none
 match o.op with
 | .load _ a=>at' (opd fr a)
 | .store _ a _=>at' (opd fr a)
 | .lookup _ m _ _=>at' (opd fr m)
 | .mapUpdate _ m _ _ | .insert _ m _ _=>at' (opd fr m)
 | .call c=>match c.callee with
   | .builtin .len=>match c.args.toList with
     | x::_=>match opd fr x with | .map d i=>.blk d i | _=>.none
     | _=>.all
   | .builtin .min | .builtin .max=>.none
   | _=>.all
 | _=>.none
def hHide (H:Heap) (bef:Nat):List Rec→Heap
 | []=>H
 | r::l=>match r.writes with
   | some (d,i)=>if bef.testBit r.ix then hHide H bef l else hHide (hKill H d i) bef l
   | none=>hHide H bef l
def mayWrite (bef:Nat) (d i:Nat):List Rec→Bool
 | []=>true
 | r::l=>(bef.testBit r.ix || (match r.reads with
   | .none=>true
   | .blk e j=>!(Nat.beq e d && Nat.beq j i)
   | .all=>false)) && mayWrite bef d i l

def mayPush (o:Oper):Bool :=
 match o.op with
 | .alloc _ | .box _ _ | .buildSlice _ _ _ | .makeSlice _ _ _ | .makeMap _ _=>true
 | .call c=>match c.callee with
   | .builtin .append=>true
   | _=>false
 | _=>false
def pushes:List Oper→Nat
 | []=>0
 | o::r=>if mayPush o then pushes r+1 else pushes r
def hPad:Heap→Nat→Heap
 | [],_=>[]
 | l::r,k=>{ l with bs:=l.bs++List.replicate k (0,.dead) } :: r
def isDead:Blk→Bool
 | .dead=>true
 | _=>false
def isDead0:Nat×Blk→Bool
 | (0,.dead)=>true
 | _=>false
def isCallV (o:Oper):Bool :=
 match o.op with
 | .call c=>match c.callee with
   | .value _=>true
   | _=>false
 | _=>false
def putW (H:Heap):Option (Nat×Nat×(Nat×Blk))→Heap
 | none=>H
 | some (d,i,b)=>hSet H d i b
structure Ent where
 v:AV
 rd:Touch
 wr:Option (Nat×Nat×(Nat×Blk))
def drawStep (P:Program) (call:CallT) (ops:Array Oper) (bef:Nat) (fr:Frm) (H:Heap) (nx:Nat) (recs:List Rec) (o:Oper):Option Ent :=
 match wantV ops fr o with
 | .lost=>none
 | .skip=>some ⟨.tup [],.none,none⟩
 | .run =>
   if isCallV o then match evalOp P call fr (hLockAll (hHide H bef recs)) nx o with
    | some (v,_)=>some ⟨v,.all,none⟩
    | none=>none
   else match evalOp P call fr (hHide H bef recs) nx o with
    | some (v,.keep)=>some ⟨v,readsOf fr o,none⟩
    | some (v,.push b)=>if mayPush o && !isDead b && isDead0 (hGet H 0 nx) && !hLock H 0 then some ⟨v,readsOf fr o,some (0,nx,(0,b))⟩ else none
    | some (v,.set d i b)=>if !isDead b.2 && (Nat.beq b.1 (hGet H d i).1 || Nat.beq b.1 (Nat.succ (hGet H d i).1)) && !isDead (hGet (hHide H bef recs) d i).2 && mayWrite bef d i recs then some ⟨v,readsOf fr o,some (d,i,b)⟩ else none
    | _=>none

def drawOps (P:Program) (nt:Nat) (call:CallT) (ops:Array Oper) (befs:Array Nat):Nat→List Oper→Frm→Heap→Nat→List Rec→Option (Frm×Heap)
 | _,[],fr,H,_,_=>some (fr,H)
 | j,o::r,fr,H,nx,recs=>match drawStep P call ops (befs.getD j 0) fr H nx recs o with
   | some e=>drawOps P nt call ops befs (j+1) r (putO nt fr o.dst e.v) (putW H e.wr) (if mayPush o then nx+1 else nx) (⟨j,e.rd,e.wr.map fun x=>(x.1,x.2.1)⟩::recs)
   | none=>none

def slotsOk (ops:Array Oper) (befs:Array Nat):Bool :=
 ops.toList.zipIdx.all fun (o,j)=>Nat.blt (befs.getD j 0) (2 ^ j) &&
  ops.toList.zipIdx.all fun (q,i) =>
   Nat.beq i j || (match q.dst with
   | none=>true
   | some d=>(o.dst != some d) && (!(o.looksAt ops).contains d || (befs.getD j 0).testBit i || (befs.getD i 0).testBit j))

inductive Ex where
 | normal | exit (id:Nat) | goto (l:Nat) | ret

def hereT:Option Nat→Bool
 | some 0=>true
 | _=>false
def cloV:AV→Bool
 | .int _ _=>true
 | .bool _=>true
 | .nils=>true
 | .slcT none _ _ _ _=>true
 | .ptrT none _ _=>true
 | _=>false
def cloR:Row→Bool
 | .I _ _=>true
 | .F _ _=>true
 | .G l=>l.all cloV
 | .M l=>arrs l
def refS (n:Nat):AV→Bool
 | .ptr d i _ _=>Nat.beq d 0 && Nat.ble n i
 | .slc d i _ _ _ _ _=>Nat.beq d 0 && Nat.ble n i
 | .map d i=>Nat.beq d 0 && Nat.ble n i
 | .yld d i=>Nat.beq d 0 && Nat.ble n i
 | .ptrT s r _=>hereT s && !cloR r
 | .slcT s _ _ _ _=>hereT s
 | .agg (.G _)=>true
 | .agg (.M l)=>!arrs l
 | .fn _ _ _=>true
 | .tup (_::_)=>true
 | _=>false
def anyM (f:AV→Bool):List Seg→Bool
 | []=>false
 | .one v::r=>f v || anyM f r
 | .arr _ _ _::r=>anyM f r
def refV (n:Nat):AV→Bool
 | .agg (.G l)=>l.any (refS n)
 | .agg (.M l)=>anyM (refS n) l
 | .fn _ a b=>a.any (refS n) || b.any (refS n)
 | .ptrT (some 0) (.M l) _=>anyM (refS n) l
 | v=>refS n v
def refR (n:Nat):Row→Bool
 | .I .. | .F ..=>false
 | .G l=>l.any (refV n)
 | .M l=>anyM (refV n) l
def refB (n:Nat):Blk→Bool
 | .dead=>false
 | .row r=>refR n r
 | .map es=>es.any fun e=>refV n e.1 || refV n e.2
 | .fmap _ _ _ _=>false
 | .loop _=>true
def cutAt (fr:Frm) (l:Lvl) (r:Heap):Nat→Nat→Heap
 | 0,_=>l::r
 | k+1,m=>if fr.any (fun x=>refV m x.2) || (l.bs.take m).any (fun x=>refB m x.2) then cutAt fr l r k (m+1) else { l with bs:=l.bs.take m } :: r
def cutTo (n:Nat) (fr:Frm) (H:Heap):Heap :=
 match H with
 | []=>[]
 | l::r=>if Nat.ble l.bs.length n then H else cutAt fr l r 4 n

def refP:AV→Bool
 | .ptrT (some 0) (.M l) _=>anyM (refS 0) l
 | v=>refS 0 v
def useS (h:Nat):AV→Bool
 | .ptr d i _ _=>Nat.beq d 0 && Nat.beq i h
 | .slc d i _ _ _ _ _=>Nat.beq d 0 && Nat.beq i h
 | .map d i=>Nat.beq d 0 && Nat.beq i h
 | .yld d i=>Nat.beq d 0 && Nat.beq i h
 | v=>refP v
def anyV (f:AV→Bool) (v:AV):Bool :=
 match v with
 | .agg (.G l)=>l.any f
 | .agg (.M l)=>anyM f l
 | .fn _ a b=>a.any f || b.any f
 | v=>f v
def anyR (f:AV→Bool):Row→Bool
 | .I .. | .F ..=>false
 | .G l=>l.any (anyV f)
 | .M l=>anyM (anyV f) l
def anyB (f:AV→Bool):Blk→Bool
 | .dead=>false
 | .row r=>anyR f r
 | .map _=>true
 | .fmap _ _ _ _=>false
 | .loop _=>true
def mvS (a b:Nat):AV→AV
 | .ptr d i v off=>if Nat.beq d 0 && Nat.beq i a then .ptr 0 b v off else .ptr d i v off
 | .slc d i v off sz len cap=>if Nat.beq d 0 && Nat.beq i a then .slc 0 b v off sz len cap else .slc d i v off sz len cap
 | .map d i=>if Nat.beq d 0 && Nat.beq i a then .map 0 b else .map d i
 | .yld d i=>if Nat.beq d 0 && Nat.beq i a then .yld 0 b else .yld d i
 | v=>v
def mapV (g:AV→AV) (v:AV):AV :=
 match v with
 | .agg (.G l)=>.agg (.G (l.map g))
 | .agg (.M l)=>.agg (.M (mapM' g l))
 | .fn f a b=>.fn f (a.map g) (b.map g)
 | v=>g v
def mapR (g:AV→AV):Row→Row
 | .I k l=>.I k l
 | .F f n=>.F f n
 | .G l=>.G (l.map (mapV g))
 | .M l=>.M (mapM' (mapV g) l)
def mapB (g:AV→AV):Blk→Blk
 | .row r=>.row (mapR g r)
 | b=>b
def mapF (g:AV→AV):Frm→Frm
 | []=>[]
 | (x,v)::r=>(x,mapV g v)::mapF g r
def mapBs (g:AV→AV):List (Nat×Blk)→List (Nat×Blk)
 | []=>[]
 | (v,b)::r=>(v,mapB g b)::mapBs g r
def hole (fr:Frm) (bs:List (Nat×Blk)):Nat→Nat→Option Nat
 | 0,_=>none
 | k+1,m=>if Nat.blt (m+1) bs.length then
    if fr.any (fun x=>anyV (useS m) x.2) || ((bs.take m).any (fun x=>anyB (useS m) x.2) || (bs.drop (m+1)).any (fun x=>anyB (useS m) x.2)) then hole fr bs k (m+1) else some m
   else none
def mvL (a b:Nat) (l:Lvl):Lvl:={ l with bs:=setBlk (mapBs (mvS a b) (l.bs.take a)) b ((nthBlk l.bs a).1,mapB (mvS a b) (nthBlk l.bs a).2) }
def tidyAt (n:Nat):Nat→Frm→Heap→Frm×Heap
 | 0,fr,H=>(fr,H)
 | k + 1,fr,H=>match H with
   | []=>(fr,[])
   | l::r=>match hole fr l.bs 4 n with
     | none=>(fr,l::r)
     | some h=>tidyAt n k (mapF (mvS (l.bs.length-1) h) fr) (cutTo n (mapF (mvS (l.bs.length-1) h) fr) (mvL (l.bs.length-1) h l::r))
def tidy (n:Nat) (fr:Frm) (H:Heap):Frm×Heap:=tidyAt n 4 fr (cutTo n fr H)

def iceS (i ver:Nat) (r:Row):AV→AV
 | .ptr d j v off=>if Nat.beq d 0 && (Nat.beq j i && Nat.beq v ver) then .ptrT none r off else .ptr d j v off
 | .slc d j v off sz len cap=>if Nat.beq d 0 && (Nat.beq j i && (Nat.beq v ver && Nat.ble (off+len*sz) r.len)) then .slcT none (r.sub off (len*sz)) sz len (cap == some len) else .slc d j v off sz len cap
 | v=>v
def slcAt (i:Nat):AV→Bool
 | .slc d j _ _ _ _ _=>Nat.beq d 0 && Nat.beq j i
 | _=>false
def iceR:Row→Bool
 | .I _ _=>true
 | .M [.arr _ _ _]=>true
 | _=>false
def rowB (f:AV→Bool):Blk→Bool
 | .row r=>anyR f r
 | _=>false
def iceAt (i:Nat) (fr:Frm) (l:Lvl):Frm×Lvl :=
 match nthBlk l.bs i with
 | (ver,.row r)=>if iceR r && (fr.any (fun x=>anyV (slcAt i) x.2) || l.bs.any (fun x=>rowB (slcAt i) x.2)) then (mapF (iceS i ver r) fr,{ l with bs:=setBlk (mapBs (iceS i ver r) l.bs) i (ver,.dead) }) else (fr,l)
 | _=>(fr,l)
def iceAll:Nat→Frm→Lvl→Frm×Lvl
 | 0,fr,l=>(fr,l)
 | n+1,fr,l=>iceAt n (iceAll n fr l).1 (iceAll n fr l).2
def ice (fr:Frm) (H:Heap):Frm×Heap :=
 match H with
 | []=>(fr,[])
 | l::r=>if l.lock then (fr,l::r) else ((iceAll l.bs.length fr l).1,(iceAll l.bs.length fr l).2::r)
def iceAllH:Nat→Frm→Lvl→Frm×Lvl
 | 0,fr,l=>(fr,l)
 | n+1,fr,l=>if (iceAllH n fr l).1.any (fun x=>anyV (slcAt n) x.2) then iceAllH n fr l else iceAt n (iceAllH n fr l).1 (iceAllH n fr l).2
def iceH (fr:Frm) (H:Heap):Frm×Heap :=
 match H with
 | []=>(fr,[])
 | l::r=>if l.lock then (fr,l::r) else ((iceAllH l.bs.length fr l).1,(iceAllH l.bs.length fr l).2::r)
def nilV (sz:Nat):AV→AV
 | .nils=>.slcT none (.M [.arr .i64 (fun _=>0) 0]) sz 0 false
 | v=>v
def nilL (sz:Nat):Nat→List AV→List AV
 | _,[]=>[]
 | 0,v::l=>nilV sz v::l
 | c+1,v::l=>v::nilL sz c l
def nilB (c sz:Nat):Blk→Blk
 | .row (.G l)=>.row (.G (nilL sz c l))
 | B=>B
def nilBs (c sz:Nat):List (Nat×Blk)→List (Nat×Blk)
 | []=>[]
 | (v,B)::r=>(v,nilB c sz B)::nilBs c sz r
def nilH (k:Nat) (H:Heap):Heap :=
 match H with
 | []=>[]
 | l::r=>if l.lock then l::r else { l with bs:=nilBs (k % 8) (k / 8) l.bs } :: r
def leadF (s:Nat):Frm→Option Nat
 | []=>none
 | (x,v)::r=>if Nat.beq x s then (match v with
   | .slc 0 i _ _ _ _ _=>some i
   | _=>none) else leadF s r
def iceOne (s:Nat) (fr:Frm) (H:Heap):Frm×Heap :=
 match H with
 | []=>(fr,[])
 | l::r=>if l.lock then (fr,l::r) else match leadF s fr with
   | some i=>((iceAt i fr l).1,(iceAt i fr l).2::r)
   | none=>(fr,l::r)
noncomputable def iceIf (m:Nat) (fr:Frm) (H:Heap):Frm×Heap:=if memS m 4000 then ((ice (fKill fr m) H).1,if Nat.beq (Nat.shiftRight m 4003) 0 then (ice (fKill fr m) H).2 else nilH (Nat.shiftRight m 4003) (ice (fKill fr m) H).2) else if memS m 4001 then iceOne (Nat.shiftRight m 4003) (fKill fr m) H else if memS m 4002 then (match fGet (fKill fr m) (Nat.shiftRight m 4003) with | .bool false=>iceH (fKill fr m) H | _=>(fKill fr m,H)) else (fKill fr m,H)

def iter (body:Frm→Heap→Option (Ex×Frm×Heap)) (n:Nat):Nat→Frm→Heap→Option (Ex×Frm×Heap)
 | 0,_,_=>none
 | fu+1,fr,H=>match body fr H with
   | some (.normal,fr,H)=>iter body n fu (tidy n fr H).1 (tidy n fr H).2
   | r=>r

structure Cx where
 P:Program
 call:CallT
 fu:Nat
 fn:FuncId
 nt:Nat
 kt:Nat→Nat
 ro:Option (Nat×Nat)
def Cx.here (cx:Cx) (H:Heap):Bool :=
 match cx.ro with
 | none=>true
 | some (d,i)=>match hGet H d i with
   | (0,.loop _)=>true
   | _=>false

def rangeStart (fr:Frm) (H:Heap) (cx:Cx) (params:Array Tmp) (assign body:Code):Heap :=
 hPush H (.loop { state:=.ready,pending:=none,fn:=cx.fn,nt:=cx.nt,fr,params:=params.toList,assign,body })

def endEx:Option Code→Option Ex
 | none=>some .normal
 | some (.exit id)=>some (.exit id)
 | some (.goto l)=>some (.goto l)
 | some .ret=>some .ret
 | _=>none

noncomputable def exec (cx:Cx):Code→Frm→Heap→Option (Ex×Frm×Heap)
 | .skip,fr,H=>some (.normal,fr,H)
 | .label _,fr,H=>some (.normal,fr,H)
 | .region id ops draw,fr,H =>
   match (if draw then (if slotsOk ops (Region.before ops) then drawOps cx.P cx.nt cx.call ops (Region.before ops) 0 ops.toList fr (hPad H (pushes ops.toList)) (hNext H) [] else none) else runOps cx.P cx.nt cx.call ops ops.toList fr H) with
   | some (fr,H)=>some (.normal,iceIf (cx.kt id) fr H)
   | none=>none
 | .seq a b,fr,H=>match exec cx a fr H with
   | some (.normal,fr,H)=>exec cx b fr H
   | r=>r
 | .cond c a b,fr,H=>match opd fr c with
   | .bool true=>exec cx a fr H
   | .bool false=>exec cx b fr H
   | _=>none
 | .block id b,fr,H=>match exec cx b fr H with
   | some (.exit id',fr,H)=>if Nat.beq id' id then some (.normal,fr,H) else some (.exit id',fr,H)
   | r=>r
 | .loop b,fr,H=>iter (exec cx b) (hNext H) cx.fu fr H
 | .rangeFunc f params assign body,fr,H =>
   match opd fr f with
   | .fn (.func g) a b =>
     if !cx.here H || hLock H 0 then none else
     match cx.call (.fn g) (a++(.yld 0 (hNext H)::b)) (rangeStart fr H cx params assign body) with
     | some (_,H1)=>match hGet H1 0 (hNext H) with
       | (0,.loop l) =>
         if l.state == .busy then none else
         match endEx l.pending with
         | some e=>some (e,fr,hKill H1 0 (hNext H))
         | none=>none
       | _=>none
     | none=>none
   | _=>none
 | .exit id,fr,H=>some (.exit id,fr,H)
 | .scope b,fr,H=>match exec cx b fr H with
   | some (.goto _,_,_)=>none
   | r=>r
 | .goto l,fr,H=>some (.goto l,fr,H)
 | .ret,fr,H=>some (.ret,fr,H)
 | .refuse _,_,_=>none

def frzV (bs:List (Nat×Blk)):Nat→AV→AV
 | 0,_=>.undef
 | n + 1,v=>match v with
   | .ptr d i ver off=>match d with
     | d+1=>.ptr d i ver off
     | 0 => match nthBlk bs i with
       | (w,.row r)=>if Nat.beq w ver then (match r with
         | .I k l=>.ptrT none (.I k l) off
         | .F f m=>.ptrT none (.F f m) off
         | .M l=>if arrs l then .ptrT none (.M l) off else .ptrT (some 0) (.M (mapM' (frzV bs n) l)) off
         | .G l=>.ptrT (some 0) (.G (l.map (frzV bs n))) off) else .undef
       | _=>.undef
   | .slc d i ver off sz len cap=>match d with
     | d+1=>.slc d i ver off sz len cap
     | 0 => match nthBlk bs i with
       | (w,.row r)=>if Nat.beq w ver∧off+len*sz≤r.len then (match r.sub off (len*sz) with
         | .I k l=>.slcT none (.I k l) sz len (cap == some len)
         | .F f m=>.slcT none (.F f m) sz len (cap == some len)
         | .M l=>if arrs l then .slcT none (.M l) sz len (cap == some len) else .slcT (some 0) (.M (mapM' (frzV bs n) l)) sz len (cap == some len)
         | .G l=>.slcT (some 0) (.G (l.map (frzV bs n))) sz len (cap == some len)) else .undef
       | _=>.undef
   | .ptrT s r off=>match s with
     | none=>.ptrT none r off
     | some (s+1)=>.ptrT (some s) r off
     | some 0=>match r with
       | .G l=>.ptrT (some 0) (.G (l.map (frzV bs n))) off
       | .M l=>if arrs l then .ptrT none (.M l) off else .ptrT (some 0) (.M (mapM' (frzV bs n) l)) off
       | r=>.ptrT none r off
   | .slcT s r sz len full=>match s with
     | none=>.slcT none r sz len full
     | some (s+1)=>.slcT (some s) r sz len full
     | some 0=>match r with
       | .G l=>.slcT (some 0) (.G (l.map (frzV bs n))) sz len full
       | .M l=>if arrs l then .slcT none (.M l) sz len full else .slcT (some 0) (.M (mapM' (frzV bs n) l)) sz len full
       | r=>.slcT none r sz len full
   | .map d i=>match d with
     | d+1=>.map d i
     | 0=>.undef
   | .yld d i=>match d with
     | d+1=>.yld d i
     | 0=>.undef
   | .fn f a b=>.fn f (a.map (frzV bs n)) (b.map (frzV bs n))
   | .agg r=>match r with
     | .G l=>.agg (.G (l.map (frzV bs n)))
     | .M l=>.agg (.M (mapM' (frzV bs n) l))
     | r=>.agg r
   | .tup l=>.tup (l.map (frzV bs n))
   | v=>v

def argFrm:Nat→List AV→Frm
 | _,[]=>[]
 | x,v::l=>(x,upV 1 v)::argFrm (x+1) l

def resV (P:Program) (fr:Frm) (H:Heap):List ResultVar→Option (List AV)
 | []=>some []
 | .tmp t::r=>(resV P fr H r).map (fGet fr t::·)
 | .cell a t::r=>match loadV P H t (fGet fr a) with
   | some v=>(resV P fr H r).map (v::·)
   | none=>none
def one:List AV→AV
 | [v]=>v
 | l=>.tup l

def putPs (nt:Nat) (fr:Frm):List Tmp→List AV→Option Frm
 | [],[]=>some fr
 | t::ts,v::vs=>if Nat.blt t nt then putPs nt (fPut fr t v) ts vs else none
 | _,_=>none

def jumpOf:Ex→Option Code
 | .normal=>none
 | .exit id=>some (.exit id)
 | .goto l=>some (.goto l)
 | .ret=>some .ret

def upFrm (k:Nat):Frm→Frm
 | []=>[]
 | (x,v)::r=>(x,upV k v)::upFrm k r

noncomputable def callN (P:Program) (ora:CallT→FuncId→List AV→Heap→Option (AV×Heap)) (KT:FuncId→Nat→Nat) (fu:Nat):Nat→CallT
 | _,.mode,_,_=>(ora (fun _ _ _=>none) 1000000 [] []).map fun _=>(.undef,[])
 | 0,_,_,_=>none
 | n + 1,.fn f,args,H=>match ora (callN P ora KT fu n) f args H with
   | some r=>some r
   | none => match P.funcs[f]? with
     | none=>none
     | some fn=>match fn.body with
       | none=>none
       | some c=>if Nat.ble args.length fn.ntmps then
         match exec ⟨P,callN P ora KT fu n,fu,f,fn.ntmps,KT f,none⟩ c (argFrm 0 args) (⟨false,[]⟩::H) with
         | some (e,fr,l::H') =>
           (match e with
           | .normal | .ret=>match resV P fr (l::H') fn.results.toList with
             | some vs=>some (frzV l.bs 5 (one vs),H')
             | none=>none
           | _=>none)
         | _=>none
         else none
 | n + 1,.round  d i,args,H=>match hGet H d i with
   | (0, .loop l) =>
     if hLock H d then none else
     match l.state with
     | .ready => match putPs l.nt (upFrm (d+1) l.fr) l.params (args.map (upV 1)) with
       | some fr => match exec ⟨P,callN P ora KT fu n,fu,l.fn,l.nt,KT l.fn,some (d+1,i)⟩ l.assign fr (⟨false,[]⟩::H) with
         | some (.normal,fr,H1)=>match hGet H1 (d+1) i with
           | (0, .loop l1)=>match l1.state with
             | .ready =>
               match exec ⟨P,callN P ora KT fu n,fu,l.fn,l.nt,KT l.fn,some (d+1,i)⟩ l.body fr (hSet H1 (d+1) i (0,.loop { l1 with state:=.busy })) with
               | some (e,_,_::H2)=>match hGet H2 d i with
                 | (0,.loop l2)=>some (.bool (jumpOf e).isNone,hSet H2 d i (0,.loop { l2 with state:=if (jumpOf e).isNone then .ready else .done,pending:=jumpOf e }))
                 | _=>none
               | _=>none
             | _=>none
           | _=>none
         | _=>none
       | none=>none
     | _=>none
   | _=>none

end Go.Eng
