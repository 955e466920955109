/- The engine, part A: abstract values, the abstract heap, the abstract interpreter. No statement is proved here. -/
import Derived.RangeFuncLeaves
import Derived.Test.YtgphpjdchnfjlaaDoorV2EngGl
import Derived.OrdersIn
import Derived.RangeFuncRecord
namespace Go.Eng
theorem nP:(∀ {α:Type} (a b:α),(some a=some b)=(a=b))∧(∀ {α β:Type} (a c:α) (b d:β),((a,b)=(c,d))=(a=c∧b=d)):=⟨fun _ _=>Option.some.injEq _ _,fun _ _ _ _=>Prod.mk.injEq _ _ _ _⟩

mutual
inductive AV where
 | undef
 | bool (b:Bool)
 | int (k:IntKind) (n:Int)
 | str (s:ByteArray)
 | nilp | nils | nilm | nilf
 | ptr (d i v off:Nat)
 | ptrT (s:Option Nat) (r:Row) (off:Nat)
 | slc (d i v off sz len:Nat) (cap:Option Nat)
 | slcT (s:Option Nat) (r:Row) (sz len:Nat) (full:Bool)
 | map (d i:Nat)
 | yld (d i:Nat)
 | fn (f:Fn) (first cap:List AV)
 | agg (r:Row)
 | tup (l:List AV)
inductive Row where
 | I (k:IntKind) (l:List Int)
 | G (l:List AV)
 | F (f:Nat→AV) (n:Nat)
 | M (l:List an)
inductive an where
 | one (v:AV)
 | arr (k:IntKind) (z:Nat→Int) (n:Nat)
end

instance:Inhabited AV:=⟨.undef⟩
instance:Inhabited Row:=⟨.G []⟩

def aG:an→Nat
 | .one _=>1
 | .arr _ _ n=>n
def ay:List an→Nat
 | []=>0
 | s::r=>aG s+ay r
def getM:List an→Nat→AV
 | [],_=>.undef
 | .one v::_,0=>v
 | .one _::r,j+1=>getM r j
 | .arr k z n::r,j=>if j<n then .int k (z j) else getM r (j-n)
def mapM' (f:AV→AV):List an→List an
 | []=>[]
 | .one v::r=>.one (f v)::mapM' f r
 | .arr k z n::r=>.arr k z n::mapM' f r
def fJ:List an→Bool
 | []=>true
 | .one _::_=>false
 | .arr _ _ _::r=>fJ r
def Row.len:Row→Nat
 | .I _ l=>l.length
 | .G l=>l.length
 | .F _ n=>n
 | .M l=>ay l
def Row.get:Row→Nat→AV
 | .I k l,j=>.int k (l.getD j 0)
 | .G l,j=>l.getD j .undef
 | .F f _,j=>f j
 | .M l,j=>getM l j

def dk (g:Nat→AV):Nat→Nat→List AV
 | _,0=>[]
 | o,n+1=>g o::dk g (o+1) n
def Row.toList:Row→List AV
 | .I k l=>l.map (.int k)
 | .G l=>l
 | .F f n=>dk f 0 n
 | .M l=>dk (getM l) 0 (ay l)
def Row.ints:Row→Option (IntKind×(Nat→Int))
 | .I k l=>some (k,fun j=>l.getD j 0)
 | .M [.arr k z _]=>some (k,z)
 | _=>none
def xO:Row→Bool
 | .M _=>true
 | _=>false
def pT:List AV→List an→List an
 | [],r=>r
 | v::l,r=>.one v::pT l r
def jN:List an→Nat→AV→List an
 | [],_,_=>[]
 | .one _::r,0,v=>.one v::r
 | .one u::r,j+1,v=>.one u::jN r j v
 | .arr k z n::r,j,v=>if j<n then (match v with
    | .int k' x=>if k'=k then .arr k (fun i=>if i=j then x else z i) n::r else pT (dk (fun i=>if i=j then v else .int k (z i)) 0 n) r
    | _=>pT (dk (fun i=>if i=j then v else .int k (z i)) 0 n) r)
   else .arr k z n::jN r (j-n) v
def w8:List Int→Bool
 | []=>true
 | x::l=>x == 0 && w8 l
def N4 (l:List Int):Nat→Int:=if w8 l then fun _=>0 else fun j=>l.getD j 0
def cV (k:IntKind):List AV→List Int×List AV
 | .int k' n::r=>if k'=k then (match cV k r with | (a,b)=>(n::a,b)) else ([],.int k' n::r)
 | l=>([],l)
def iu:Nat→List AV→List an
 | 0,l=>pT l []
 | _,[]=>[]
 | f+1,.int k n::r=>match cV k r with
   | (a,b)=>if Nat.ble 7 a.length then .arr k (N4 (n::a)) (a.length+1)::iu f b else .one (.int k n)::iu f r
 | f+1,v::r=>.one v::iu f r

def so (k:IntKind):List AV→Option (List Int)
 | []=>some []
 | .int k' n::r=>if k'=k then (so k r).map (n::·) else none
 | _=>none
def Row.ofList:List AV→Row
 | .int k n::r=>match so k r with
   | some l=>.I k (n::l)
   | none=>.G (.int k n::r)
 | l=>.G l

def kX:List an→Nat→Nat→Option (IntKind×(Nat→Int))
 | [],_,_=>none
 | .one _::r,o+1,n=>kX r o n
 | .one _::_,0,_=>none
 | .arr k z m::r,o,n=>if o+n≤m then some (k,fun j=>z (o+j)) else if m≤o then kX r (o-m) n else none
def Row.sub (r:Row) (o n:Nat):Row :=
 match r with
 | .I k l=>.I k ((l.drop o).take n)
 | .G l=>.G ((l.drop o).take n)
 | .F f _=>.F (fun j=>f (o+j)) n
 | .M [.arr k z _]=>.M [.arr k (fun j=>z (o+j)) n]
 | .M l=>if Nat.beq o 0 && Nat.beq (ay l) n then .M l else match kX l o n with
   | some (k,z)=>.M [.arr k z n]
   | none=>.G (dk (getM l) o n)

def gT:AV→Bool
 | .undef | .bool _ | .int _ _ | .str _ | .nilp | .nils | .nilm | .nilf=>true
 | .ptrT s _ _=>s.isNone
 | .slcT s _ _ _ _=>s.isNone
 | .agg (.I ..) | .agg (.F ..)=>true
 | .agg (.M l)=>fJ l
 | _=>false

def Row.cut (r:Row) (o n:Nat):Row :=
 match r with
 | .G l=>Row.ofList ((l.drop o).take n)
 | .M l=>if Nat.ble n 8 then Row.ofList (dk (getM l) o n) else if Nat.beq o 0 && Nat.beq (ay l) n then .M l else (Row.M l).sub o n
 | r=>r.sub o n

def Row.set (r:Row) (j:Nat) (v:AV):Row :=
 match r,v with
 | .I k l,.int k' n=>if k'=k then .I k (l.set j n) else .G ((l.map (.int k)).set j v)
 | .I k l,v=>.G ((l.map (.int k)).set j v)
 | .G l,v=>.G (l.set j v)
 | .F f n,v=>.F (fun i=>if i=j then (if gT v then v else .undef) else f i) n
 | .M l,v=>.M (jN l j v)
def Row.cw (r:Row) (j:Nat):List AV→Row
 | []=>r
 | v::l=>(r.set j v).cw (j+1) l
def Row.tT (r s:Row):Option Row :=
 match r.ints,s.ints with
 | some (k,z),some (k',z')=>if k'=k then some (.M [.arr k (fun i=>if i<r.len then z i else z' (i-r.len)) (r.len+s.len)]) else none
 | _,_=>none
def m8:AV→AV
 | .slcT none (.I k l) sz m _=>.slcT none (.M [.arr k (fun j=>l.getD j 0) l.length]) sz m false
 | .slcT none (.M [.arr k z n]) sz m _=>.slcT none (.M [.arr k z n]) sz m false
 | v=>v
def qu (n i:Nat):Nat:=if Nat.beq n 1 then 0 else i
def Row.app (r s:Row):Row :=
 match r,s with
 | .M l,s=>(match (Row.M l).tT s with | some q=>q | none=>.G ((Row.M l).toList++s.toList))
 | .I k l,.M m=>(match (Row.I k l).tT (.M m) with | some q=>q | none=>.G ((Row.I k l).toList++(Row.M m).toList))
 | .I k l,.I k' l'=>if k'=k then .I k (l++l') else .G (l.map (.int k)++l'.map (.int k'))
 | .F f n,s=>.F (fun i=>if Nat.blt i n then f i else if gT (s.get (qu s.len (i-n))) then m8 (s.get (qu s.len (i-n))) else .undef) (n+s.len)
 | r,s=>.G (r.toList++s.toList)

def nZ (k:Nat):AV→AV
 | .ptr d i v off=>.ptr (d+k) i v off
 | .ptrT s r off=>.ptrT (s.map (· + k)) r off
 | .slc d i v off sz len cap=>.slc (d+k) i v off sz len cap
 | .slcT s r sz len full=>.slcT (s.map (· + k)) r sz len full
 | .map d i=>.map (d+k) i
 | .yld d i=>.yld (d+k) i
 | .agg (.I a l)=>.agg (.I a l)
 | .fn _ _ _ | .agg _ | .tup (_::_)=>.undef
 | v=>v
def NT (k:Nat) (v:AV):AV :=
 match v with
 | .fn f a b=>.fn f (a.map (nZ k)) (b.map (nZ k))
 | .agg (.G l)=>.agg (.G (l.map (nZ k)))
 | .agg (.M l)=>.agg (.M (mapM' (nZ k) l))
 | .agg r=>.agg r
 | v=>nZ k v
def lu (k:Nat) (v:AV):AV :=
 match k with
 | 0=>v
 | k+1=>NT (k+1) v
def A2 (k:Nat):Row→Row
 | .I a l=>.I a l
 | .G l=>.G (l.map (nZ k))
 | .F f n=>.F f n
 | .M l=>.M (mapM' (nZ k) l)
def A1 (k:Nat) (r:Row):Row :=
 match k with
 | 0=>r
 | k+1=>A2 (k+1) r
def kn:Nat→Nat→AV→AV
 | 0,_,_=>.undef
 | n + 1,k,v=>match v with
   | .ptr d i v off=>if Nat.blt d k then .undef else .ptr (d-k) i v off
   | .ptrT none r off=>.ptrT none r off
   | .ptrT (some s) r off=>if Nat.blt s k then (match r with
     | .G l=>.ptrT (some 0) (.G (l.map (kn n (k-s)))) off
     | .M l=>if fJ l then .ptrT none (.M l) off else .ptrT (some 0) (.M (mapM' (kn n (k-s)) l)) off
     | r=>.ptrT none r off) else .ptrT (some (s-k)) r off
   | .slc d i v off sz len cap=>if Nat.blt d k then .undef else .slc (d-k) i v off sz len cap
   | .slcT none r sz len full=>.slcT none r sz len full
   | .slcT (some s) r sz len full=>if Nat.blt s k then (match r with
     | .G l=>.slcT (some 0) (.G (l.map (kn n (k-s)))) sz len full
     | .M l=>if fJ l then .slcT none (.M l) sz len full else .slcT (some 0) (.M (mapM' (kn n (k-s)) l)) sz len full
     | r=>.slcT none r sz len full) else .slcT (some (s-k)) r sz len full
   | .map d i=>if Nat.blt d k then .undef else .map (d-k) i
   | .yld d i=>if Nat.blt d k then .undef else .yld (d-k) i
   | .agg (.I a l)=>.agg (.I a l)
   | .fn _ _ _ | .agg _ | .tup (_::_)=>.undef
   | v=>v
def Mc (k:Nat) (v:AV):AV :=
 match v with
 | .fn f a b=>.fn f (a.map (kn 4 k)) (b.map (kn 4 k))
 | .agg (.G l)=>.agg (.G (l.map (kn 4 k)))
 | .agg (.M l)=>.agg (.M (mapM' (kn 4 k) l))
 | .agg r=>.agg r
 | v=>kn 4 k v
def Oo (k:Nat) (v:AV):AV :=
 match k with
 | 0=>v
 | k+1=>Mc (k+1) v
def vO (k:Nat):Row→Row
 | .I a l=>.I a l
 | .G l=>.G (l.map (kn 4 k))
 | .F f n=>.F f n
 | .M l=>.M (mapM' (kn 4 k) l)

def jn (k:Nat) (r:Row):Row :=
 match k with
 | 0=>r
 | k+1=>vO (k+1) r

abbrev az:=List (Nat×AV)
def bB:az→Nat→AV
 | [],_=>.undef
 | (x,v)::r,y=>if Nat.beq x y then v else bB r y
def tW:az→Nat→AV→az
 | [],y,u=>[(y,u)]
 | (x,v)::r,y,u=>if Nat.ble y x then (if Nat.beq x y then (y,u)::r else (y,u)::(x,v)::r) else (x,v)::tW r y u
def nD (m x:Nat):Bool:=Nat.beq (Nat.land (Nat.shiftRight m x) 1) 1
noncomputable def bJ (fr:az) (m:Nat):az:=List.rec (motive:=fun _=>az) [] (fun p _ ih=>Prod.rec (motive:=fun _=>az) (fun x _=>Bool.rec (motive:=fun _=>az) (p::ih) ih (Nat.beq (Nat.land (Nat.shiftRight m x) 1) 1)) p) fr

structure oc where
 state:LoopState
 pending:Option Code
 fn:FuncId
 nt:Nat
 fr:az
 params:List Tmp
 assign:Code
 body:Code

inductive KK where
 | num (k:IntKind)
 | str (n:Nat)
inductive aq where
 | dead
 | row (r:Row)
 | map (es:List (AV×AV))
 | fmap (q:KK) (h:List Int→Bool) (g:List Int→Int) (c:Nat)
 | loop (l:oc)

structure bA where
 lock:Bool
 bs:List (Nat×aq)
abbrev aa:=List bA

def au:List (Nat×aq)→Nat→Nat×aq
 | [],_=>(0,.dead)
 | b::_,0=>b
 | _::r,i+1=>au r i
def bC:List (Nat×aq)→Nat→Nat×aq→List (Nat×aq)
 | [],_,_=>[]
 | _::r,0,x=>x::r
 | b::r,i+1,x=>b::bC r i x
def aw:aa→Nat→Nat→Nat×aq
 | [],_,_=>(0,.dead)
 | l::_,0,i=>au l.bs i
 | _::r,d+1,i=>aw r d i
def aE:aa→Nat→Bool
 | [],_=>true
 | l::_,0=>l.lock
 | _::r,d+1=>aE r d
def dM:aa→Nat→Nat→Nat×aq→aa
 | [],_,_,_=>[]
 | l::r,0,i,x=>{ l with bs:=bC l.bs i x } :: r
 | l::r,d+1,i,x=>l::dM r d i x
def dQ (H:aa) (d i:Nat):aa:=dM H d i ((aw H d i).1,.dead)
def iW:aa→aq→aa
 | [],b=>[⟨false,[(0,b)]⟩]
 | l::r,b=>{ l with bs:=l.bs++[(0,b)] } :: r
def bu:aa→Nat→aq→aa
 | [],_,_=>[]
 | l::r,0,b=>{ l with bs:=l.bs++[(0,b)] } :: r
 | l::r,d+1,b=>l::bu r d b
def ao:aa→Nat→Nat
 | [],_=>0
 | l::_,0=>l.bs.length
 | _::r,d+1=>ao r d
def aN:aa→Nat
 | []=>0
 | l::_=>l.bs.length
def bw:aa→aa
 | []=>[]
 | l::r=>{ l with lock:=true } :: bw r

def cK (H:aa) (d i v:Nat):Option Row :=
 match aw H d i with
 | (ver,.row r)=>if Nat.beq ver v then some r else none
 | _=>none

def rX:Value→AV
 | .bool b=>.bool b
 | .int k n=>.int k n
 | .string s=>.str s
 | .pointer none=>.nilp
 | .slice none 0 0=>.nils
 | .map none=>.nilm
 | .nilFunc=>.nilf
 | _=>.undef
def kB:Value→AV
 | .bool b=>.bool b
 | .int k n=>.int k n
 | .string s=>.str s
 | .pointer none=>.nilp
 | .slice none 0 0=>.nils
 | .map none=>.nilm
 | .nilFunc=>.nilf
 | .func (.func f) ca cb=>if ca.isEmpty && cb.isEmpty then .fn (.func f) [] [] else .undef
 | .agg cs=>if cs.toList.all Value.oneCell' then .agg (Row.ofList (cs.toList.map rX)) else .undef
 | .tuple cs=>if cs.isEmpty then .tup [] else .undef
 | _=>.undef

def bG (fr:az):Operand→AV
 | .tmp t=>bB fr t
 | .const v=>kB v
 | .global _=>.undef
 | .func f=>.fn (.func f) [] []

def AV.row:AV→Option Row
 | .agg r=>some r
 | .int k n=>some (.I k [n])
 | .undef | .tup _=>none
 | v=>some (.G [v])

def eQ (P:Program) (t:TypeId):Option Bool :=
 match P.underlying t with
 | some (.struct _) | some (.array _ _)=>some true
 | some _=>some false
 | none=>none
def bn (P:Program) (t:TypeId):Option Nat:=(P.info? t).map (·.size)
def cA (P:Program) (t:TypeId):Option AV:=((P.info? t).bind (·.zero)).map kB

inductive Delta where
 | bk
 | push (b:aq)
 | set (d i:Nat) (b:Nat×aq)
 | heap (H:aa)
def Delta.on (δ:Delta) (H:aa):aa :=
 match δ with
 | .bk=>H
 | .push b=>iW H b
 | .set d i b=>dM H d i b
 | .heap H=>H

inductive NW where
 | fn (f:FuncId)
 | round (d i:Nat)
 | mode
abbrev aB:=NW→List AV→aa→Option (AV×aa)

def ig (op:BinOp) (k:IntKind) (x y:Int):Option AV :=
 match op with
 | .add=>some (.int k (k.wrap (x+y)))
 | .sub=>some (.int k (k.wrap (x-y)))
 | .mul=>some (.int k (k.wrap (x*y)))
 | .quo=>if y=0 then none else some (.int k (k.wrap (x.tdiv y)))
 | .rem=>if y=0 then none else some (.int k (x.tmod y))
 | .and=>some (.int k (k.wrap (BitVec.ofInt k.bits x &&& BitVec.ofInt k.bits y).toNat))
 | .or=>some (.int k (k.wrap (BitVec.ofInt k.bits x ||| BitVec.ofInt k.bits y).toNat))
 | .xor=>some (.int k (k.wrap (BitVec.ofInt k.bits x ^^^ BitVec.ofInt k.bits y).toNat))
 | .andNot=>some (.int k (k.wrap (BitVec.ofInt k.bits x &&& ~~~(BitVec.ofInt k.bits y)).toNat))
 | .eql=>some (.bool (x == y))
 | .neq=>some (.bool (x != y))
 | .lss=>some (.bool (x<y))
 | .leq=>some (.bool (x≤y))
 | .gtr=>some (.bool (x > y))
 | .geq=>some (.bool (x≥y))
 | _=>none

def fR (P:Program) (g:TypeId→Option Nat) (off:Nat):List Field→Option Nat
 | []=>some off
 | f::fs=>if f.name != "_" && Nat.beq f.offset off then (match g f.type with
   | some s=>fR P g (off+s) fs
   | none=>none) else none
def bW (P:Program):Nat→TypeId→Option Nat
 | 0,_=>none
 | n + 1,t=>match P.underlying t with
   | some (.int _)=>if bn P t=some 1 then some 1 else none
   | some (.array len e)=>match bW P n e with
     | some s=>if bn P t=some (len*s) then some (len*s) else none
     | none=>none
   | some (.struct fs)=>if P.stoodInHeld t then none else match fR P (bW P n) 0 fs.toList with
     | some s=>if bn P t=some s then some s else none
     | none=>none
   | _=>none

def eM:List Int→List Int→Bool
 | [],[]=>true
 | x::a,y::b=>(x == y) && eM a b
 | _,_=>false

def allEq (z z':Nat→Int):Nat→Bool
 | 0=>true
 | n+1=>allEq z z' n && (z n == z' n)
def Lx (P:Program) (t:TypeId) (r s:Row):Option Bool :=
 match r.ints,s.ints with
 | some (k,z),some (k',z')=>if k=k'∧bW P 20 t=some r.len∧eQ P t=some true∧r.len=s.len then some (allEq z z' r.len) else none
 | _,_=>none
def zK (P:Program) (t:TypeId) (x y:AV):Option Bool :=
 match x,y with
 | .bool a,.bool b=>(match P.underlying t with | some .bool=>some (a == b) | _=>none)
 | .nils,.nils | .nils,.slcT .. | .nils,.slc .. | .slcT ..,.nils | .slc ..,.nils =>
   (match P.underlying t with
   | some (.slice _)=>(match x,y with
     | .nils,.nils=>some true
     | .nils,.slcT _ _ _ n _=>if 0<n then some false else none
     | .slcT _ _ _ n _,.nils=>if 0<n then some false else none
     | _,_=>some false)
   | _=>none)
 | .nilp,.nilp | .nilp,.ptr .. | .nilp,.ptrT .. | .ptr ..,.nilp | .ptrT ..,.nilp =>
   (match P.underlying t with
   | some (.pointer _)=>some (match x,y with | .nilp,.nilp=>true | _,_=>false)
   | _=>none)
 | .agg (.I k a),.agg (.I k' b)=>if k=k'∧bW P 20 t=some a.length∧eQ P t=some true∧a.length=b.length then some (eM a b) else none
 | .agg (.M l),.agg s=>Lx P t (.M l) s
 | .agg (.I k a),.agg (.M l)=>Lx P t (.I k a) (.M l)
 | _,_=>none

def jU (P:Program) (op:BinOp) (t:TypeId) (x y:AV):Option AV :=
 match op,x,y with
 | .shl,.int k a,.int _ b=>if b<0 then none else some (.int k (k.wrap (a*2 ^ (min b.toNat k.bits))))
 | .shr,.int k a,.int _ b=>if b<0 then none else some (.int k (a.fdiv (2 ^ (min b.toNat k.bits))))
 | op,.int k a,.int k' b=>if k=k' then ig op k a b else none
 | .eql,x,y=>(zK P t x y).map .bool
 | .neq,x,y=>(zK P t x y).map fun b=>.bool (!b)
 | _,_,_=>none

def NP (op:UnOp) (x:AV):Option AV :=
 match op,x with
 | .not,.bool b=>some (.bool !b)
 | .neg,.int k n=>some (.int k (k.wrap (0-n)))
 | _,_=>none

def nQ {α:Type} (l:List α):Nat→List α
 | 0=>[]
 | n+1=>l++nQ l n
def dE (z:Row) (n:Nat):Row :=
 match z with
 | .I k l=>.I k (nQ l n)
 | z=>.G (nQ z.toList n)
def Ev (l:List AV) (n:Nat):Row :=
 match l with
 | [v]=>if gT v then .F (fun _=>v) n else .G (nQ l n)
 | l=>.G (nQ l n)
def dx (z:Row) (n:Nat):Row :=
 match z with
 | .I k l=>if w8 l then .M [.arr k (fun _=>0) (n*l.length)] else .I k (nQ l n)
 | z=>Ev z.toList n
def jr (r:Row):Row :=
 match r with
 | .I k l=>if Nat.ble 8 l.length then .M [.arr k (N4 l) l.length] else .I k l
 | .G l=>if (iu l.length l).length == l.length then .G l else .M (iu l.length l)
 | r=>r
def xh (z:Nat→Int) (off:Nat) (z':Nat→Int) (n:Nat):Nat→Int:=fun i=>if off≤i∧i<off+n then z' (i-off) else z i
def yq:List an→Nat→Nat→List an→Option (List an)
 | [],_,_,_=>none
 | .one v::r,o+1,n,q=>(yq r o n q).map (.one v::·)
 | .one _::_,0,_,_=>none
 | .arr k z m::r,o,n,q=>if Nat.beq o 0 && Nat.beq m n then some (q++r) else if Nat.ble m o then (yq r (o-m) n q).map (.arr k z m::·) else none
def I0 (q:Row):Option (List an) :=
 match jr q with
 | .M l=>some l
 | _=>none
def wz (l:List an) (off:Nat) (q:Row):Row :=
 if Nat.ble 9 q.len then (match I0 q with
  | some qs=>if Nat.beq off 0 && Nat.beq (ay l) q.len then .M qs else (match yq l off q.len qs with
    | some l'=>.M l'
    | none=>(Row.M l).cw off q.toList)
  | none=>(Row.M l).cw off q.toList)
 else (Row.M l).cw off q.toList
def jM (r:Row) (off:Nat) (q:Row):Row :=
 match r with
 | .M l=>(match l with
   | [.arr k z m]=>(match q with
     | .M [.arr k' z' n]=>if k'=k then .M [.arr k (xh z off z' n) m] else wz l off q
     | _=>wz l off q)
   | _=>wz l off q)
 | r=>r.cw off q.toList
def qt:AV→Bool
 | .slcT none (.M [.arr _ _ _]) _ _ _=>true
 | .slcT none (.I _ _) _ _ _=>true
 | _=>false
def qN (sy:Bool) (r:Row):Row :=
 match r with
 | .I k l=>if sy then .M [.arr k (fun j=>l.getD j 0) l.length] else .I k l
 | .G [v]=>if sy && qt v then .F (fun _=>m8 v) 1 else .G [v]
 | r=>r
def sb (place:Nat→Option (Nat×Nat)) (r:Row):List (Nat×AV)→Option Row
 | []=>some r
 | (i,v)::rest=>match place i with
   | none=>none
   | some (off,size)=>match v.row with
     | some q=>if q.len=size∧off+q.len≤r.len then sb place (r.cw off q.toList) rest else none
     | none=>none

def iw (P:Program) (t:TypeId) (r:Row) (off:Nat):Option AV :=
 match eQ P t,bn P t with
 | some true,some n=>if off+n≤r.len then some (.agg (r.cut off n)) else none
 | some false,_=>if off<r.len then some (r.get off) else none
 | _,_=>none

def QN (s:Option Nat) (v:AV):AV :=
 match s with
 | none=>v
 | some k=>lu k v

def lY (P:Program) (H:aa) (t:TypeId) (a:AV):Option AV :=
 match a with
 | .ptr d i v off=>match cK H d i v with
   | some r=>(iw P t r off).map (lu d)
   | none=>none
 | .ptrT s r off=>(iw P t r off).map (QN s)
 | _=>none

def gd (P:Program) (H:aa) (t:TypeId) (a x:AV):Option Delta :=
 match a with
 | .ptr d i v off =>
   if aE H d then none else
   match cK H d i v,bn P t,x.row with
   | some r,some n,some q =>
     if q.len=n∧off+n≤r.len then
      match d,x with
      | d+1,.slc 0 j w o sz len cap=>if aE H 0 then none else match cK H 0 j w with
        | some q=>some (.heap (bu (dM (dQ H 0 j) (d+1) i (v,.row (r.set off (.slc 0 (ao H (d+1)) 0 o sz len cap)))) (d+1) (.row (jn (d+1) q))))
        | none=>none
      | _,_=>some (.set d i (v,.row (jM r off (jn d q))))
     else none
   | _,_,_=>none
 | _=>none

def kV (P:Program):List Field→Option (List (Nat×Nat))
 | []=>some []
 | f::fs=>match bn P f.type,kV P fs with
   | some n,some l=>some ((f.offset,n)::l)
   | _,_=>none

def vK (P:Program) (sy:Bool) (t:TypeId) (parts:List (Nat×AV)):Option AV :=
 match cA P t,P.underlying t with
 | some (.agg z),some (.struct fs)=>match kV P fs.toList with
   | some l=>(sb (fun i=>l[i]?) (if sy then jr z else z) parts).map .agg
   | none=>none
 | some (.agg z),some (.array _ e)=>match bn P e with
   | some n=>(sb (fun i=>some (i*n,n)) (if sy then jr z else z) parts).map .agg
   | none=>none
 | _,_=>none

def kr (a:AV) (n:Nat):Option AV :=
 match a with
 | .ptr d i v off=>some (.ptr d i v (off+n))
 | .ptrT s r off=>some (.ptrT s r (off+n))
 | _=>none

def gu (P:Program) (t:TypeId) (a:AV) (f:Nat):Option AV :=
 match P.underlying t with
 | some (.struct fs)=>match fs[f]? with
   | some g=>match bn P g.type with
     | some (_+1)=>kr a g.offset
     | _=>none
   | none=>none
 | _=>none

def fi (P:Program) (t:TypeId) (x:AV) (i:Int):Option AV :=
 match P.underlying t,x with
 | some (.array n e),x=>match bn P e with
   | some z=>if 0≤i∧i<n then kr x (i.toNat*z) else none
   | none=>none
 | some (.slice e),.slc d j v off sz len _ =>
   if 0≤i∧i<len∧bn P e=some sz then some (.ptr d j v (off+i.toNat*sz)) else none
 | some (.slice e),.slcT s r sz len _ =>
   if 0≤i∧i<len∧bn P e=some sz then some (.ptrT s r (i.toNat*sz)) else none
 | _,_=>none

def pI (P:Program) (t:TypeId) (x:AV) (i:Int):Option AV :=
 match P.underlying t,x with
 | some (.array n e),.agg r=>match bn P e with
   | some z=>if 0≤i∧i<n then iw P e r (i.toNat*z) else none
   | none=>none
 | some .string,.str s=>if 0≤i then (match s[i.toNat]? with
   | some b=>some (.int .u8 b.toNat)
   | none=>none) else none
 | _,_=>none

def sa (P:Program) (t:TypeId) (x:AV) (f:Nat):Option AV :=
 match P.underlying t,x with
 | some (.struct fs),.agg r=>match fs[f]? with
   | some g=>iw P g.type r g.offset
   | none=>none
 | _,_=>none

def bound (o:Option AV) (dflt top:Nat):Option Nat :=
 match o with
 | none=>some dflt
 | some (.int _ i)=>if 0≤i∧i≤top then some i.toNat else none
 | some _=>none

def dP (lo hi mx:Option AV) (len:Nat):Option (Nat×Nat×Option Nat) :=
 match mx with
 | none=>match bound hi len len with
   | some h=>match bound lo 0 h with
     | some l=>some (l,h,none)
     | none=>none
   | none=>none
 | some a=>match bound (some a) 0 len with
   | some m=>if hi.isSome then (match bound hi len m with
     | some h=>match bound lo 0 h with
       | some l=>some (l,h,some m)
       | none=>none
     | none=>none) else none
   | none=>none

def p8 (P:Program) (t:TypeId) (x:AV) (lo hi mx:Option AV):Option AV :=
 match P.underlying t,x with
 | some (.slice e),.slc d j v off sz len cap =>
   match dP lo hi mx len with
   | some (l,h,mm)=>if bn P e=some sz then
      some (.slc d j v (off+l*sz) sz (h-l) (match mm with | none=>cap.map (· - l) | some m=>some (m-l))) else none
   | none=>none
 | some (.slice e),.slcT s r sz len full =>
   match dP lo hi mx len with
   | some (l,h,mm)=>if bn P e=some sz∧l*sz+(h-l)*sz≤r.len then
      some (.slcT s (r.sub (l*sz) ((h-l)*sz)) sz (h-l) (match mm with | none=>full && Nat.beq h len | some m=>Nat.beq h m)) else none
   | none=>none
 | some (.slice e),.nils =>
   match dP lo hi mx 0,bn P e with
   | some _,some _=>some .nils
   | _,_=>none
 | some (.array n e),.ptr d j v off =>
   match dP lo hi mx n with
   | some (l,h,mm)=>match bn P e with
     | some sz=>some (.slc d j v (off+l*sz) sz (h-l) (match mm with | none=>some (n-l) | some m=>some (m-l)))
     | none=>none
   | none=>none
 | _,_=>none

def uh (P:Program) (H:aa) (t:TypeId) (x:AV):Option Int :=
 match P.underlying t,x with
 | some (.array n _),_=>some n
 | some (.slice _),.nils=>some 0
 | some (.slice _),.slc _ _ _ _ _ len _=>some len
 | some (.slice _),.slcT _ _ _ len _=>some len
 | some (.map _ _),.nilm=>some 0
 | some (.map _ _),.map d i=>match aw H d i with
   | (0,.map es)=>some es.length
   | (0,.fmap _ _ _ c)=>some c
   | _=>none
 | _,_=>none

def J8 (P:Program) (t:TypeId) (x:AV):Option Int :=
 match P.underlying t,x with
 | some (.slice _),.nils=>some 0
 | some (.slice _),.slc _ _ _ _ _ _ (some c)=>some c
 | _,_=>none

def dW (H:aa) (sz n:Nat) (x:AV):Option Row :=
 match x with
 | .nils=>if n=0 then some (.G []) else none
 | .slc d i v off sz' len _=>match cK H d i v with
   | some r=>if sz'=sz∧n≤len∧off+n*sz≤r.len then some (A1 d (r.sub off (n*sz))) else none
   | none=>none
 | .slcT s r sz' len _=>if sz'=sz∧n≤len∧n*sz≤r.len then some (match s with | none=>r.sub 0 (n*sz) | some k=>A1 k (r.sub 0 (n*sz))) else none
 | _=>none
def nw:AV→Option Nat
 | .nils=>some 0
 | .slc _ _ _ _ _ len _=>some len
 | .slcT _ _ _ len _=>some len
 | _=>none

def room:Nat:=2 ^ 46

def DT (P:Program) (sy:Bool) (nx:Nat) (e:TypeId) (s x:AV):Option (AV×Delta) :=
 match P.info? e,s,x with
 | some inf,.nils,.int _ k =>
   if 0≤k∧k.toNat≤room∧k.toNat*inf.bytes≤room∧0<inf.size∧((cA P e).bind AV.row).map Row.len=some inf.size then
    (if k=0 then some (.nils,.bk) else some (.slc 0 nx 0 0 inf.size k.toNat none,.push (.row (qN sy (.I .i64 [])))))
   else none
 | _,_,_=>none
def oi      (P:Program) (sy:Bool) (H:aa) (nx:Nat) (t u:TypeId) (s x:AV):Option (AV×Delta) :=
 match P.underlying t,P.underlying u with
 | some (.slice e),some (.int _)=>DT P sy nx e s x
 | some (.slice e),some (.slice _) =>
   match P.info? e,nw s,nw x with
   | some inf,some m,some n =>
     if n=0 then (match s,x with
      | .nils,_=>some (s,.bk)
      | .slc ..,_=>some (s,.bk)
      | .slcT ..,_=>some (s,.bk)
      | _,_=>none)
     else if (m+n)*inf.bytes≤room∧(m+n)≤room∧0<inf.bytes∧((cA P e).bind AV.row).map Row.len=some inf.size then
      match dW H inf.size n x with
      | none=>none
      | some new =>
        match s with
        | .nils=>some (.slc 0 nx 0 0 inf.size n none,.push (.row (qN sy new)))
        | .slcT _ _ _ _ true=>match dW H inf.size m s with
          | some old=>some (.slc 0 nx 0 0 inf.size (m+n) none,.push (.row (qN sy (old.app new))))
          | none=>none
        | .slc d i v off sz _ (some c) =>
          if c<m+n then
           match dW H inf.size m s with
           | some old=>some (.slc 0 nx 0 0 inf.size (m+n) none,.push (.row (qN sy (old.app new))))
           | none=>none
          else if aE H d then none else
           match cK H d i v with
           | some r=>if sz=inf.size∧off+(m+n)*sz≤r.len then
              some (.slc d i v off sz (m+n) (some c),.set d i (v,.row (r.cw (off+m*sz) (jn d new).toList)))
             else none
           | none=>none
        | .slc d i v off sz _ none =>
          if aE H d then none else
          match cK H d i v with
          | some r=>if sz=inf.size∧off+m*sz=r.len then
             some (.slc d i (v+1) 0 sz (m+n) none,.set d i (v+1,.row ((r.sub off (m*sz)).app (jn d new))))
            else none
          | none=>none
        | _=>none
     else none
   | _,_,_=>none
 | _,_=>none

def copyV (P:Program) (H:aa) (t:TypeId) (s x:AV):Option (AV×Delta) :=
 match P.underlying t with
 | some (.slice e) =>
   match bn P e,nw s,nw x with
   | some z,some m,some n =>
     match dW H z (min n m) x with
     | none=>none
     | some new =>
       match s with
       | .nils=>some (.int .i64 (min n m:Nat),.bk)
       | .slc d i v off sz _ _ =>
         if aE H d then none else
         match cK H d i v with
         | some r=>if sz=z∧off+(min n m)*sz≤r.len then
            some (.int .i64 (min n m:Nat),.set d i (v,.row (jM r off (jn d new))))
           else none
         | none=>none
       | _=>none
   | _,_,_=>none
 | _=>none

def rV (P:Program) (H:aa) (t:TypeId) (s:AV):Option (AV×Delta) :=
 match P.underlying t,s with
 | some (.slice _),.nils=>some (.tup [],.bk)
 | some (.slice e),.slc d i v off sz len _ =>
   if aE H d then none else
   match (cA P e).bind AV.row,cK H d i v with
   | some z,some r=>if z.len=sz∧bn P e=some sz∧off+len*sz≤r.len then
      some (.tup [],if len=0 then .bk else .set d i (v,.row (if xO r then jM r off (dx z len) else r.cw off (dE z len).toList)))
     else none
   | _,_=>none
 | _,_=>none

def ep (mx:Bool) (k:IntKind) (x:Int):List AV→Option AV
 | []=>some (.int k x)
 | .int k' y::r=>if k=k' then ep mx k (if mx then (if y > x then y else x) else (if y<x then y else x)) r else none
 | _=>none
def nE (mx:Bool):List AV→Option AV
 | .int k x::r=>ep mx k x r
 | _=>none

def ja (P:Program) (sy:Bool) (nx:Nat) (t:TypeId) (l c:AV):Option (AV×Delta) :=
 match P.underlying t,l,c with
 | some (.slice e),.int _ l,.int _ c =>
   match P.info? e,(cA P e).bind AV.row with
   | some inf,some z =>
     if 0≤l∧l≤c∧c.toNat*inf.bytes≤room∧c.toNat≤room∧z.len=inf.size then
      some (.slc 0 nx 0 0 inf.size l.toNat (some c.toNat),.push (.row (if sy then dx z c.toNat else dE z c.toNat)))
     else none
   | _,_=>none
 | _,_,_=>none

def ju (P:Program) (nx:Nat) (t:TypeId) (len:Nat) (parts:List (Nat×AV)):Option (AV×Delta) :=
 match P.underlying t with
 | some (.slice e)=>match bn P e,(cA P e).bind AV.row with
   | some z,some zv =>
     if len*z≤2 ^ 24∧zv.len=z then
      (sb (fun i=>some (i*z,z)) (dE zv len) parts).map fun r=>(.slc 0 nx 0 0 z len (some len),.push (.row r))
     else none
   | _,_=>none
 | _=>none

def oL (x y:AV):Option Bool :=
 match x,y with
 | .int k a,.int k' b=>if k=k' then some (a == b) else none
 | .agg (.I k a),.agg (.I k' b)=>if k=k'∧a.length=b.length then some (eM a b) else none
 | _,_=>none
def fQ (key:AV):List (AV×AV)→Nat→Option (Option Nat)
 | [],_=>some none
 | (k,_)::r,i=>match oL key k with
   | some true=>some (some i)
   | some false=>fQ key r (i+1)
   | none=>none
def jK (P:Program) (t:TypeId) (x:AV):Bool :=
 match P.underlying t,x with
 | some (.int _),.int _ _=>true
 | some (.array _ _),.agg (.I _ l)=>bW P 20 t == some l.length
 | some (.struct _),.agg (.I _ l)=>bW P 20 t == some l.length
 | _,_=>false
def uL (H:aa) (m:AV):Option (Nat×List (AV×AV)) :=
 match m with
 | .nilm=>some (0,[])
 | .map d i=>match aw H d i with
   | (0,.map es)=>some (d,es)
   | _=>none
 | _=>none
def nJ:List (AV×AV)→Nat→AV
 | [],_=>.undef
 | e::_,0=>e.2
 | _::r,i+1=>nJ r i
def nT:List (AV×AV)→Nat→AV×AV→List (AV×AV)
 | [],_,_=>[]
 | _::r,0,x=>x::r
 | e::r,i+1,x=>e::nT r i x
def nh:List (AV×AV)→Nat→List (AV×AV)
 | [],_=>[]
 | _::r,0=>r
 | e::r,i+1=>e::nh r i
def uR (H:aa) (m:AV):Option (KK×(List Int→Bool)×(List Int→Int)×Nat) :=
 match m with
 | .map d i=>match aw H d i with
   | (0,.fmap q h g c)=>some (q,h,g,c)
   | _=>none
 | _=>none
def ug:KK→AV→Option (List Int)
 | .num k,.int k' n=>if k=k' then some [n] else none
 | .str m,.agg (.I .i64 l)=>if Nat.beq l.length m then some l else none
 | _,_=>none
def MF:AV→Option KK
 | .int k _=>some (.num k)
 | .agg (.I .i64 l)=>some (.str l.length)
 | _=>none
def yh:AV→Option Int
 | .int .i64 n=>some n
 | _=>none
def fo (h:List Int→Bool) (n:List Int) (b:Bool):List Int→Bool:=fun i=>if i=n then b else h i
def iJ (g:List Int→Int) (n:List Int) (x:Int):List Int→Int:=fun i=>if i=n then x else g i
def tU (b:Bool) (c:Nat):Nat:=cond b c (c+1)
def xf (b:Bool) (c:Nat):Nat:=cond b (c-1) c
def sM (P:Program) (t:TypeId):aq :=
 match P.underlying t with
 | some (.map kt et)=>match (cA P kt).bind MF,(cA P et).bind yh with
   | some q,some _=>.fmap q (fun _=>false) (fun _=>0) 0
   | _,_=>.map []
 | _=>.map []
def oO (P:Program) (H:aa) (t:TypeId) (m key:AV) (ok:Bool):Option AV :=
 match P.underlying t with
 | some (.map kt et) =>
   if jK P kt key then
    match uR H m with
    | some (q,h,g,_)=>match ug q key,(cA P et).bind yh with
      | some n,some 0=>some (if ok then .tup [.int .i64 (g n),.bool (h n)] else .int .i64 (g n))
      | _,_=>none
    | none=>match uL H m,cA P et with
    | some (d,es),some z=>match fQ key es 0 with
      | some (some i)=>some (if ok then .tup [lu d (nJ es i),.bool true] else lu d (nJ es i))
      | some none=>some (if ok then .tup [z,.bool false] else z)
      | none=>none
    | _,_=>none
   else none
 | _=>none
def jF (P:Program) (H:aa) (t:TypeId) (m key x:AV):Option Delta :=
 match P.underlying t,m with
 | some (.map kt _),.map d i =>
   if aE H d then none else
   if jK P kt key then
    match aw H d i with
    | (0,.fmap q h g c)=>match ug q key,yh x with
      | some n,some y=>some (.set d i (0,.fmap q (fo h n true) (iJ g n y) (tU (h n) c)))
      | _,_=>none
    | (0,.map es)=>match fQ key es 0 with
      | some (some j)=>some (.set d i (0,.map (nT es j (key,Oo d x))))
      | some none=>some (.set d i (0,.map (es++[(key,Oo d x)])))
      | none=>none
    | _=>none
   else none
 | _,_=>none
def ot (P:Program) (H:aa) (t:TypeId) (m key:AV):Option (AV×Delta) :=
 match P.underlying t,m with
 | some (.map kt _),.map d i =>
   if aE H d then none else
   if jK P kt key then
    match aw H d i with
    | (0,.fmap q h g c)=>match ug q key with
      | some n=>some (.tup [],.set d i (0,.fmap q (fo h n false) (iJ g n 0) (xf (h n) c)))
      | none=>none
    | (0,.map es)=>match fQ key es 0 with
      | some (some j)=>some (.tup [],.set d i (0,.map (nh es j)))
      | some none=>some (.tup [],.set d i (0,.map es))
      | none=>none
    | _=>none
   else none
 | _,_=>none

def dC (fr:az):List (Nat×Operand)→List (Nat×AV)
 | []=>[]
 | (i,x)::r=>(i,bG fr x)::dC fr r
def jL (fr:az):List Operand→List AV
 | []=>[]
 | x::r=>bG fr x::jL fr r

def lr {α:Type} (call:aB) (a b:α):α :=
 match call .mode [] [] with
 | some _=>a
 | none=>b
def ft (P:Program) (call:aB) (fr:az) (H:aa) (nx:Nat) (c:Call):Option (AV×Delta) :=
 match c.callee with
 | .value f=>match bG fr f with
   | .fn (.func g) a b=>(call (.fn g) (a++(jL fr c.args.toList++b)) H).map fun (v,H)=>(v,.heap H)
   | .yld d i=>(call (.round d i) (jL fr c.args.toList) H).map fun (v,H)=>(v,.heap H)
   | _=>none
 | .builtin .len=>match c.args.toList,c.argTypes.toList with
   | x::_,t::_=>(uh P H t (bG fr x)).map fun n=>(.int .i64 n,.bk)
   | _,_=>none
 | .builtin .cap=>match c.args.toList,c.argTypes.toList with
   | x::_,t::_=>(J8 P t (bG fr x)).map fun n=>(.int .i64 n,.bk)
   | _,_=>none
 | .builtin .append=>match c.args.toList,c.argTypes.toList with
   | s::x::_,t::u::_=>oi P (lr call true false) H nx t u (bG fr s) (bG fr x)
   | _,_=>none
 | .builtin .copy=>match c.args.toList,c.argTypes.toList with
   | s::x::_,t::_=>copyV P H t (bG fr s) (bG fr x)
   | _,_=>none
 | .builtin .clear=>match c.args.toList,c.argTypes.toList with
   | s::_,t::_=>rV P H t (bG fr s)
   | _,_=>none
 | .builtin .delete=>match c.args.toList,c.argTypes.toList with
   | m::k::_,t::_=>ot P H t (bG fr m) (bG fr k)
   | _,_=>none
 | .builtin .min=>(nE false (jL fr c.args.toList)).map fun v=>(v,.bk)
 | .builtin .max=>(nE true (jL fr c.args.toList)).map fun v=>(v,.bk)
 | _=>none

def kp (o:Option AV):Option (AV×Delta):=o.map fun v=>(v,.bk)

def evalOp (P:Program) (call:aB) (fr:az) (H:aa) (nx:Nat) (o:Oper):Option (AV×Delta) :=
 match o.op with
 | .move x | .assign x=>some (bG fr x,.bk)
 | .pick c a b=>match bG fr c with
   | .bool t=>some (if t then bG fr a else bG fr b,.bk)
   | _=>none
 | .alloc t=>((cA P t).bind AV.row).map fun z=>(.ptr 0 nx 0 0,.push (.row (lr call (jr z) z)))
 | .box _ x=>(bG fr x).row.map fun r=>(.ptr 0 nx 0 0,.push (.row (lr call (jr r) r)))
 | .build t parts=>kp (vK P (lr call true false) t (dC fr parts.toList))
 | .buildSlice t len parts=>ju P nx t len (dC fr parts.toList)
 | .load t a=>kp (lY P H t (bG fr a))
 | .store t a x=>(gd P H t (bG fr a) (bG fr x)).map fun δ=>(.tup [],δ)
 | .nilCheck x=>match bG fr x with
   | .ptr d i v off=>some (.ptr d i v off,.bk)
   | .ptrT s r off=>some (.ptrT s r off,.bk)
   | _=>none
 | .binOp op t x y _=>kp (jU P op t (bG fr x) (bG fr y))
 | .unOp op _ x=>kp (NP op (bG fr x))
 | .convert src dst x=>match P.underlying src,P.underlying dst,bG fr x with
   | some _,some (.int k),.int _ n=>some (.int k (k.wrap n),.bk)
   | _,_,_=>none
 | .makeFunc fn first cap=>match fn with
   | .func g=>some (.fn (.func g) (jL fr first.toList) (jL fr cap.toList),.bk)
   | _=>none
 | .makeSlice t l c=>ja P (lr call true false) nx t (bG fr l) (bG fr c)
 | .slice t x lo hi mx=>kp (p8 P t (bG fr x) (lo.map (bG fr)) (hi.map (bG fr)) (mx.map (bG fr)))
 | .fieldAddr t x f=>kp (gu P t (bG fr x) f)
 | .field t x f=>kp (sa P t (bG fr x) f)
 | .indexAddr t x i=>match bG fr i with
   | .int _ n=>kp (fi P t (bG fr x) n)
   | _=>none
 | .index t x i=>match bG fr i with
   | .int _ n=>kp (pI P t (bG fr x) n)
   | _=>none
 | .makeMap t none=>some (.map 0 nx,.push (lr call (sM P t) (.map [])))
 | .lookup t m k ok=>kp (oO P H t (bG fr m) (bG fr k) ok)
 | .mapUpdate t m k x | .insert t m k x=>(jF P H t (bG fr m) (bG fr k) (bG fr x)).map fun δ=>(.tup [],δ)
 | .extract t ix=>match bG fr t with
   | .tup l=>match l[ix]? with
     | some v=>some (v,.bk)
     | none=>none
   | _=>none
 | .call c=>ft P call fr H nx c
 | _=>none

inductive Want where
 | run | skip | lost
def gZ (ops:Array Oper) (fr:az) (o:Oper):Want :=
 match o.guard with
 | none=>.run
 | some (j,want)=>match (ops[j]?).bind (·.dst) with
   | none=>.lost
   | some d=>match bB fr d with
     | .bool b=>if b == want then .run else .skip
     | .tup _=>.skip
     | _=>.lost

def iq (nt:Nat) (fr:az) (dst:Option Tmp) (v:AV):az :=
 match dst with
 | some d=>if Nat.blt d nt then tW fr d v else fr
 | none=>fr

def ew (P:Program) (nt:Nat) (call:aB) (ops:Array Oper):List Oper→az→aa→Option (az×aa)
 | [],fr,H=>some (fr,H)
 | o :: r,fr,H=>match gZ ops fr o with
   | .lost=>none
   | .skip=>ew P nt call ops r (iq nt fr o.dst (.tup [])) H
   | .run=>match evalOp P call fr H (aN H) o with
     | none=>none
     | some (v,δ)=>ew P nt call ops r (iq nt fr o.dst v) (δ.on H)

inductive Touch where
 | none
 | blk (d i:Nat)
 | all
structure Rec where
 ix:Nat
 reads:Touch
 writes:Option (Nat×Nat)
def cE (fr:az) (o:Oper):Touch :=
 let at' (v:AV):Touch:=match v with
  | .ptr d i _ _=>.blk d i
  | .slc d i _ _ _ _ _=>.blk d i
  | .map d i=>.blk d i
  | _=>.none
 match o.op with
 | .load _ a=>at' (bG fr a)
 | .store _ a _=>at' (bG fr a)
 | .lookup _ m _ _=>at' (bG fr m)
 | .mapUpdate _ m _ _ | .insert _ m _ _=>at' (bG fr m)
 | .call c=>match c.callee with
   | .builtin .len=>match c.args.toList with
     | x::_=>match bG fr x with | .map d i=>.blk d i | _=>.none
     | _=>.all
   | .builtin .min | .builtin .max=>.none
   | _=>.all
 | _=>.none
def cP (H:aa) (bef:Nat):List Rec→aa
 | []=>H
 | r::l=>match r.writes with
   | some (d,i)=>if bef.testBit r.ix then cP H bef l else cP (dQ H d i) bef l
   | none=>cP H bef l
def jb (bef:Nat) (d i:Nat):List Rec→Bool
 | []=>true
 | r::l=>(bef.testBit r.ix || (match r.reads with
   | .none=>true
   | .blk e j=>!(Nat.beq e d && Nat.beq j i)
   | .all=>false)) && jb bef d i l

def fX (o:Oper):Bool :=
 match o.op with
 | .alloc _ | .box _ _ | .buildSlice _ _ _ | .makeSlice _ _ _ | .makeMap _ _=>true
 | .call c=>match c.callee with
   | .builtin .append=>true
   | _=>false
 | _=>false
def cu:List Oper→Nat
 | []=>0
 | o::r=>if fX o then cu r+1 else cu r
def lP:aa→Nat→aa
 | [],_=>[]
 | l::r,k=>{ l with bs:=l.bs++List.replicate k (0,.dead) } :: r
def iY:aq→Bool
 | .dead=>true
 | _=>false
def oK:Nat×aq→Bool
 | (0,.dead)=>true
 | _=>false
def eE (o:Oper):Bool :=
 match o.op with
 | .call c=>match c.callee with
   | .value _=>true
   | _=>false
 | _=>false
def qR (H:aa):Option (Nat×Nat×(Nat×aq))→aa
 | none=>H
 | some (d,i,b)=>dM H d i b
structure tJ where
 v:AV
 rd:Touch
 wr:Option (Nat×Nat×(Nat×aq))
def dZ (P:Program) (call:aB) (ops:Array Oper) (bef:Nat) (fr:az) (H:aa) (nx:Nat) (recs:List Rec) (o:Oper):Option tJ :=
 match gZ ops fr o with
 | .lost=>none
 | .skip=>some ⟨.tup [],.none,none⟩
 | .run =>
   if eE o then match evalOp P call fr (bw (cP H bef recs)) nx o with
    | some (v,_)=>some ⟨v,.all,none⟩
    | none=>none
   else match evalOp P call fr (cP H bef recs) nx o with
    | some (v,.bk)=>some ⟨v,cE fr o,none⟩
    | some (v,.push b)=>if fX o && !iY b && oK (aw H 0 nx) && !aE H 0 then some ⟨v,cE fr o,some (0,nx,(0,b))⟩ else none
    | some (v,.set d i b)=>if !iY b.2 && (Nat.beq b.1 (aw H d i).1 || Nat.beq b.1 (Nat.succ (aw H d i).1)) && !iY (aw (cP H bef recs) d i).2 && jb bef d i recs then some ⟨v,cE fr o,some (d,i,b)⟩ else none
    | _=>none

def eZ (P:Program) (nt:Nat) (call:aB) (ops:Array Oper) (befs:Array Nat):Nat→List Oper→az→aa→Nat→List Rec→Option (az×aa)
 | _,[],fr,H,_,_=>some (fr,H)
 | j,o::r,fr,H,nx,recs=>match dZ P call ops (befs.getD j 0) fr H nx recs o with
   | some e=>eZ P nt call ops befs (j+1) r (iq nt fr o.dst e.v) (qR H e.wr) (if fX o then nx+1 else nx) (⟨j,e.rd,e.wr.map fun x=>(x.1,x.2.1)⟩::recs)
   | none=>none

def eJ (ops:Array Oper) (befs:Array Nat):Bool :=
 ops.toList.zipIdx.all fun (o,j)=>Nat.blt (befs.getD j 0) (2 ^ j) &&
  ops.toList.zipIdx.all fun (q,i) =>
   Nat.beq i j || (match q.dst with
   | none=>true
   | some d=>(o.dst != some d) && (!(o.looksAt ops).contains d || (befs.getD j 0).testBit i || (befs.getD i 0).testBit j))

inductive Ex where
 | normal | exit (id:Nat) | goto (l:Nat) | ret

def BE:Option Nat→Bool
 | some 0=>true
 | _=>false
def CT:AV→Bool
 | .int _ _=>true
 | .bool _=>true
 | .nils=>true
 | .slcT none _ _ _ _=>true
 | .ptrT none _ _=>true
 | _=>false
def L9:Row→Bool
 | .I _ _=>true
 | .F _ _=>true
 | .G l=>l.all CT
 | .M l=>fJ l
def lq (n:Nat):AV→Bool
 | .ptr d i _ _=>Nat.beq d 0 && Nat.ble n i
 | .slc d i _ _ _ _ _=>Nat.beq d 0 && Nat.ble n i
 | .map d i=>Nat.beq d 0 && Nat.ble n i
 | .yld d i=>Nat.beq d 0 && Nat.ble n i
 | .ptrT s r _=>BE s && !L9 r
 | .slcT s _ _ _ _=>BE s
 | .agg (.G _)=>true
 | .agg (.M l)=>!fJ l
 | .fn _ _ _=>true
 | .tup (_::_)=>true
 | _=>false
def anyM (f:AV→Bool):List an→Bool
 | []=>false
 | .one v::r=>f v || anyM f r
 | .arr _ _ _::r=>anyM f r
def qS (n:Nat):AV→Bool
 | .agg (.G l)=>l.any (lq n)
 | .agg (.M l)=>anyM (lq n) l
 | .fn _ a b=>a.any (lq n) || b.any (lq n)
 | .ptrT (some 0) (.M l) _=>anyM (lq n) l
 | v=>lq n v
def Qm (n:Nat):Row→Bool
 | .I .. | .F ..=>false
 | .G l=>l.any (qS n)
 | .M l=>anyM (qS n) l
def Dt (n:Nat):aq→Bool
 | .dead=>false
 | .row r=>Qm n r
 | .map es=>es.any fun e=>qS n e.1 || qS n e.2
 | .fmap _ _ _ _=>false
 | .loop _=>true
def cutAt (fr:az) (l:bA) (r:aa):Nat→Nat→aa
 | 0,_=>l::r
 | k+1,m=>if fr.any (fun x=>qS m x.2) || (l.bs.take m).any (fun x=>Dt m x.2) then cutAt fr l r k (m+1) else { l with bs:=l.bs.take m } :: r
def jv (n:Nat) (fr:az) (H:aa):aa :=
 match H with
 | []=>[]
 | l::r=>if Nat.ble l.bs.length n then H else cutAt fr l r 4 n

def HK:AV→Bool
 | .ptrT (some 0) (.M l) _=>anyM (lq 0) l
 | v=>lq 0 v
def uv (h:Nat):AV→Bool
 | .ptr d i _ _=>Nat.beq d 0 && Nat.beq i h
 | .slc d i _ _ _ _ _=>Nat.beq d 0 && Nat.beq i h
 | .map d i=>Nat.beq d 0 && Nat.beq i h
 | .yld d i=>Nat.beq d 0 && Nat.beq i h
 | v=>HK v
def pn (f:AV→Bool) (v:AV):Bool :=
 match v with
 | .agg (.G l)=>l.any f
 | .agg (.M l)=>anyM f l
 | .fn _ a b=>a.any f || b.any f
 | v=>f v
def LH (f:AV→Bool):Row→Bool
 | .I .. | .F ..=>false
 | .G l=>l.any (pn f)
 | .M l=>anyM (pn f) l
def zM (f:AV→Bool):aq→Bool
 | .dead=>false
 | .row r=>LH f r
 | .map _=>true
 | .fmap _ _ _ _=>false
 | .loop _=>true
def um (a b:Nat):AV→AV
 | .ptr d i v off=>if Nat.beq d 0 && Nat.beq i a then .ptr 0 b v off else .ptr d i v off
 | .slc d i v off sz len cap=>if Nat.beq d 0 && Nat.beq i a then .slc 0 b v off sz len cap else .slc d i v off sz len cap
 | .map d i=>if Nat.beq d 0 && Nat.beq i a then .map 0 b else .map d i
 | .yld d i=>if Nat.beq d 0 && Nat.beq i a then .yld 0 b else .yld d i
 | v=>v
def mY (g:AV→AV) (v:AV):AV :=
 match v with
 | .agg (.G l)=>.agg (.G (l.map g))
 | .agg (.M l)=>.agg (.M (mapM' g l))
 | .fn f a b=>.fn f (a.map g) (b.map g)
 | v=>g v
def Fc (g:AV→AV):Row→Row
 | .I k l=>.I k l
 | .F f n=>.F f n
 | .G l=>.G (l.map (mY g))
 | .M l=>.M (mapM' (mY g) l)
def pO (g:AV→AV):aq→aq
 | .row r=>.row (Fc g r)
 | b=>b
def pP (g:AV→AV):az→az
 | []=>[]
 | (x,v)::r=>(x,mY g v)::pP g r
def jy (g:AV→AV):List (Nat×aq)→List (Nat×aq)
 | []=>[]
 | (v,b)::r=>(v,pO g b)::jy g r
def hole (fr:az) (bs:List (Nat×aq)):Nat→Nat→Option Nat
 | 0,_=>none
 | k+1,m=>if Nat.blt (m+1) bs.length then
    if fr.any (fun x=>pn (uv m) x.2) || ((bs.take m).any (fun x=>zM (uv m) x.2) || (bs.drop (m+1)).any (fun x=>zM (uv m) x.2)) then hole fr bs k (m+1) else some m
   else none
def wX (a b:Nat) (l:bA):bA:={ l with bs:=bC (jy (um a b) (l.bs.take a)) b ((au l.bs a).1,pO (um a b) (au l.bs a).2) }
def jk (n:Nat):Nat→az→aa→az×aa
 | 0,fr,H=>(fr,H)
 | k + 1,fr,H=>match H with
   | []=>(fr,[])
   | l::r=>match hole fr l.bs 4 n with
     | none=>(fr,l::r)
     | some h=>jk n k (pP (um (l.bs.length-1) h) fr) (jv n (pP (um (l.bs.length-1) h) fr) (wX (l.bs.length-1) h l::r))
def tidy (n:Nat) (fr:az) (H:aa):az×aa:=jk n 4 fr (jv n fr H)

def mX (i ver:Nat) (r:Row):AV→AV
 | .ptr d j v off=>if Nat.beq d 0 && (Nat.beq j i && Nat.beq v ver) then .ptrT none r off else .ptr d j v off
 | .slc d j v off sz len cap=>if Nat.beq d 0 && (Nat.beq j i && (Nat.beq v ver && Nat.ble (off+len*sz) r.len)) then .slcT none (r.sub off (len*sz)) sz len (cap == some len) else .slc d j v off sz len cap
 | v=>v
def o6 (i:Nat):AV→Bool
 | .slc d j _ _ _ _ _=>Nat.beq d 0 && Nat.beq j i
 | _=>false
def wa:Row→Bool
 | .I _ _=>true
 | .M [.arr _ _ _]=>true
 | _=>false
def Lb (f:AV→Bool):aq→Bool
 | .row r=>LH f r
 | _=>false
def lS (i:Nat) (fr:az) (l:bA):az×bA :=
 match au l.bs i with
 | (ver,.row r)=>if wa r && (fr.any (fun x=>pn (o6 i) x.2) || l.bs.any (fun x=>Lb (o6 i) x.2)) then (pP (mX i ver r) fr,{ l with bs:=bC (jy (mX i ver r) l.bs) i (ver,.dead) }) else (fr,l)
 | _=>(fr,l)
def iX:Nat→az→bA→az×bA
 | 0,fr,l=>(fr,l)
 | n+1,fr,l=>lS n (iX n fr l).1 (iX n fr l).2
def C9 (fr:az) (H:aa):az×aa :=
 match H with
 | []=>(fr,[])
 | l::r=>if l.lock then (fr,l::r) else ((iX l.bs.length fr l).1,(iX l.bs.length fr l).2::r)
def dR:Nat→az→bA→az×bA
 | 0,fr,l=>(fr,l)
 | n+1,fr,l=>if (dR n fr l).1.any (fun x=>pn (o6 n) x.2) then dR n fr l else lS n (dR n fr l).1 (dR n fr l).2
def ue (fr:az) (H:aa):az×aa :=
 match H with
 | []=>(fr,[])
 | l::r=>if l.lock then (fr,l::r) else ((dR l.bs.length fr l).1,(dR l.bs.length fr l).2::r)
def MU (sz:Nat):AV→AV
 | .nils=>.slcT none (.M [.arr .i64 (fun _=>0) 0]) sz 0 false
 | v=>v
def Dh (sz:Nat):Nat→List AV→List AV
 | _,[]=>[]
 | 0,v::l=>MU sz v::l
 | c+1,v::l=>v::Dh sz c l
def uo (c sz:Nat):aq→aq
 | .row (.G l)=>.row (.G (Dh sz c l))
 | B=>B
def ma (c sz:Nat):List (Nat×aq)→List (Nat×aq)
 | []=>[]
 | (v,B)::r=>(v,uo c sz B)::ma c sz r
def Fl (k:Nat) (H:aa):aa :=
 match H with
 | []=>[]
 | l::r=>if l.lock then l::r else { l with bs:=ma (k % 8) (k / 8) l.bs } :: r
def BQ (s:Nat):az→Option Nat
 | []=>none
 | (x,v)::r=>if Nat.beq x s then (match v with
   | .slc 0 i _ _ _ _ _=>some i
   | _=>none) else BQ s r
def v7 (s:Nat) (fr:az) (H:aa):az×aa :=
 match H with
 | []=>(fr,[])
 | l::r=>if l.lock then (fr,l::r) else match BQ s fr with
   | some i=>((lS i fr l).1,(lS i fr l).2::r)
   | none=>(fr,l::r)
noncomputable def lT (m:Nat) (fr:az) (H:aa):az×aa:=if nD m 4000 then ((C9 (bJ fr m) H).1,if Nat.beq (Nat.shiftRight m 4003) 0 then (C9 (bJ fr m) H).2 else Fl (Nat.shiftRight m 4003) (C9 (bJ fr m) H).2) else if nD m 4001 then v7 (Nat.shiftRight m 4003) (bJ fr m) H else if nD m 4002 then (match bB (bJ fr m) (Nat.shiftRight m 4003) with | .bool false=>ue (bJ fr m) H | _=>(bJ fr m,H)) else (bJ fr m,H)

def iter (body:az→aa→Option (Ex×az×aa)) (n:Nat):Nat→az→aa→Option (Ex×az×aa)
 | 0,_,_=>none
 | fu+1,fr,H=>match body fr H with
   | some (.normal,fr,H)=>iter body n fu (tidy n fr H).1 (tidy n fr H).2
   | r=>r

structure Cx where
 P:Program
 call:aB
 fu:Nat
 fn:FuncId
 nt:Nat
 kt:Nat→Nat
 ro:Option (Nat×Nat)
def Cx.here (cx:Cx) (H:aa):Bool :=
 match cx.ro with
 | none=>true
 | some (d,i)=>match aw H d i with
   | (0,.loop _)=>true
   | _=>false

def gy (fr:az) (H:aa) (cx:Cx) (params:Array Tmp) (assign body:Code):aa :=
 iW H (.loop { state:=.ready,pending:=none,fn:=cx.fn,nt:=cx.nt,fr,params:=params.toList,assign,body })

def r4:Option Code→Option Ex
 | none=>some .normal
 | some (.exit id)=>some (.exit id)
 | some (.goto l)=>some (.goto l)
 | some .ret=>some .ret
 | _=>none

noncomputable def exec (cx:Cx):Code→az→aa→Option (Ex×az×aa)
 | .skip,fr,H=>some (.normal,fr,H)
 | .label _,fr,H=>some (.normal,fr,H)
 | .region id ops draw,fr,H =>
   match (if draw then (if eJ ops (Region.before ops) then eZ cx.P cx.nt cx.call ops (Region.before ops) 0 ops.toList fr (lP H (cu ops.toList)) (aN H) [] else none) else ew cx.P cx.nt cx.call ops ops.toList fr H) with
   | some (fr,H)=>some (.normal,lT (cx.kt id) fr H)
   | none=>none
 | .seq a b,fr,H=>match exec cx a fr H with
   | some (.normal,fr,H)=>exec cx b fr H
   | r=>r
 | .cond c a b,fr,H=>match bG fr c with
   | .bool true=>exec cx a fr H
   | .bool false=>exec cx b fr H
   | _=>none
 | .block id b,fr,H=>match exec cx b fr H with
   | some (.exit id',fr,H)=>if Nat.beq id' id then some (.normal,fr,H) else some (.exit id',fr,H)
   | r=>r
 | .loop b,fr,H=>iter (exec cx b) (aN H) cx.fu fr H
 | .rangeFunc f params assign body,fr,H =>
   match bG fr f with
   | .fn (.func g) a b =>
     if !cx.here H || aE H 0 then none else
     match cx.call (.fn g) (a++(.yld 0 (aN H)::b)) (gy fr H cx params assign body) with
     | some (_,H1)=>match aw H1 0 (aN H) with
       | (0,.loop l) =>
         if l.state == .busy then none else
         match r4 l.pending with
         | some e=>some (e,fr,dQ H1 0 (aN H))
         | none=>none
       | _=>none
     | none=>none
   | _=>none
 | .exit id,fr,H=>some (.exit id,fr,H)
 | .scope b,fr,H=>match exec cx b fr H with
   | some (.goto _,_,_)=>none
   | r=>r
 | .goto l,fr,H=>some (.goto l,fr,H)
 | .ret,fr,H=>some (.ret,fr,H)
 | .refuse _,_,_=>none

def c8   (bs:List (Nat×aq)):Nat→AV→AV
 | 0,_=>.undef
 | n + 1,v=>match v with
   | .ptr d i ver off=>match d with
     | d+1=>.ptr d i ver off
     | 0 => match au bs i with
       | (w,.row r)=>if Nat.beq w ver then (match r with
         | .I k l=>.ptrT none (.I k l) off
         | .F f m=>.ptrT none (.F f m) off
         | .M l=>if fJ l then .ptrT none (.M l) off else .ptrT (some 0) (.M (mapM' (c8 bs n) l)) off
         | .G l=>.ptrT (some 0) (.G (l.map (c8 bs n))) off) else .undef
       | _=>.undef
   | .slc d i ver off sz len cap=>match d with
     | d+1=>.slc d i ver off sz len cap
     | 0 => match au bs i with
       | (w,.row r)=>if Nat.beq w ver∧off+len*sz≤r.len then (match r.sub off (len*sz) with
         | .I k l=>.slcT none (.I k l) sz len (cap == some len)
         | .F f m=>.slcT none (.F f m) sz len (cap == some len)
         | .M l=>if fJ l then .slcT none (.M l) sz len (cap == some len) else .slcT (some 0) (.M (mapM' (c8 bs n) l)) sz len (cap == some len)
         | .G l=>.slcT (some 0) (.G (l.map (c8 bs n))) sz len (cap == some len)) else .undef
       | _=>.undef
   | .ptrT s r off=>match s with
     | none=>.ptrT none r off
     | some (s+1)=>.ptrT (some s) r off
     | some 0=>match r with
       | .G l=>.ptrT (some 0) (.G (l.map (c8 bs n))) off
       | .M l=>if fJ l then .ptrT none (.M l) off else .ptrT (some 0) (.M (mapM' (c8 bs n) l)) off
       | r=>.ptrT none r off
   | .slcT s r sz len full=>match s with
     | none=>.slcT none r sz len full
     | some (s+1)=>.slcT (some s) r sz len full
     | some 0=>match r with
       | .G l=>.slcT (some 0) (.G (l.map (c8 bs n))) sz len full
       | .M l=>if fJ l then .slcT none (.M l) sz len full else .slcT (some 0) (.M (mapM' (c8 bs n) l)) sz len full
       | r=>.slcT none r sz len full
   | .map d i=>match d with
     | d+1=>.map d i
     | 0=>.undef
   | .yld d i=>match d with
     | d+1=>.yld d i
     | 0=>.undef
   | .fn f a b=>.fn f (a.map (c8 bs n)) (b.map (c8 bs n))
   | .agg r=>match r with
     | .G l=>.agg (.G (l.map (c8 bs n)))
     | .M l=>.agg (.M (mapM' (c8 bs n) l))
     | r=>.agg r
   | .tup l=>.tup (l.map (c8 bs n))
   | v=>v

def fe:Nat→List AV→az
 | _,[]=>[]
 | x,v::l=>(x,lu 1 v)::fe (x+1) l

def gA (P:Program) (fr:az) (H:aa):List ResultVar→Option (List AV)
 | []=>some []
 | .tmp t::r=>(gA P fr H r).map (bB fr t::·)
 | .cell a t::r=>match lY P H t (bB fr a) with
   | some v=>(gA P fr H r).map (v::·)
   | none=>none
def one:List AV→AV
 | [v]=>v
 | l=>.tup l

def kd (nt:Nat) (fr:az):List Tmp→List AV→Option az
 | [],[]=>some fr
 | t::ts,v::vs=>if Nat.blt t nt then kd nt (tW fr t v) ts vs else none
 | _,_=>none

def cq:Ex→Option Code
 | .normal=>none
 | .exit id=>some (.exit id)
 | .goto l=>some (.goto l)
 | .ret=>some .ret

def ln (k:Nat):az→az
 | []=>[]
 | (x,v)::r=>(x,lu k v)::ln k r

noncomputable def c6 (P:Program) (ora:aB→FuncId→List AV→aa→Option (AV×aa)) (KT:FuncId→Nat→Nat) (fu:Nat):Nat→aB
 | _,.mode,_,_=>(ora (fun _ _ _=>none) 1000000 [] []).map fun _=>(.undef,[])
 | 0,_,_,_=>none
 | n + 1,.fn f,args,H=>match ora (c6 P ora KT fu n) f args H with
   | some r=>some r
   | none => match P.funcs[f]? with
     | none=>none
     | some fn=>match fn.body with
       | none=>none
       | some c=>if Nat.ble args.length fn.ntmps then
         match exec ⟨P,c6 P ora KT fu n,fu,f,fn.ntmps,KT f,none⟩ c (fe 0 args) (⟨false,[]⟩::H) with
         | some (e,fr,l::H') =>
           (match e with
           | .normal | .ret=>match gA P fr (l::H') fn.results.toList with
             | some vs=>some (c8 l.bs 5 (one vs),H')
             | none=>none
           | _=>none)
         | _=>none
         else none
 | n + 1,.round  d i,args,H=>match aw H d i with
   | (0, .loop l) =>
     if aE H d then none else
     match l.state with
     | .ready => match kd l.nt (ln (d+1) l.fr) l.params (args.map (lu 1)) with
       | some fr => match exec ⟨P,c6 P ora KT fu n,fu,l.fn,l.nt,KT l.fn,some (d+1,i)⟩ l.assign fr (⟨false,[]⟩::H) with
         | some (.normal,fr,H1)=>match aw H1 (d+1) i with
           | (0, .loop l1)=>match l1.state with
             | .ready =>
               match exec ⟨P,c6 P ora KT fu n,fu,l.fn,l.nt,KT l.fn,some (d+1,i)⟩ l.body fr (dM H1 (d+1) i (0,.loop { l1 with state:=.busy })) with
               | some (e,_,_::H2)=>match aw H2 d i with
                 | (0,.loop l2)=>some (.bool (cq e).isNone,dM H2 d i (0,.loop { l2 with state:=if (cq e).isNone then .ready else .done,pending:=cq e }))
                 | _=>none
               | _=>none
             | _=>none
           | _=>none
         | _=>none
       | none=>none
     | _=>none
   | _=>none

end Go.Eng
