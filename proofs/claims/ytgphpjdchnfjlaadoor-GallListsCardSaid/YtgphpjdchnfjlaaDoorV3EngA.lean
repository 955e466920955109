/- The engine, part A: abstract values, the abstract heap, the abstract interpreter. No statement is proved here. -/
import Derived.RangeFuncLeaves
import Derived.Test.YtgphpjdchnfjlaaDoorV3EngGl
import Derived.OrdersIn
import Derived.RangeFuncRecord
namespace Go.Eng
theorem nP:(∀ {α:Type} (a b:α),(some a=some b)=(a=b))∧(∀ {α β:Type} (a c:α) (b d:β),((a,b)=(c,d))=(a=c∧b=d)):=⟨fun _ _=>Option.some.injEq _ _,fun _ _ _ _=>Prod.mk.injEq _ _ _ _⟩

mutual
inductive AV where
 | undef
 | bool (b:Bool)
 | int (k:IntKind) (n:Int)
 | str (s:ByteArray)
 | nilp | nils | nilm | nilf
 | ptr (d i v off:Nat)
 | ptrT (s:Option Nat) (r:Row) (off:Nat)
 | slc (d i v off sz len:Nat) (cap:Option Nat)
 | slcT (s:Option Nat) (r:Row) (sz len:Nat) (full:Bool)
 | map (d i:Nat)
 | yld (d i:Nat)
 | fn (f:Fn) (first cap:List AV)
 | agg (r:Row)
 | tup (l:List AV)
inductive Row where
 | I (k:IntKind) (l:List Int)
 | G (l:List AV)
 | F (f:Nat→AV) (n:Nat)
 | M (l:List aw)
inductive aw where
 | one (v:AV)
 | arr (k:IntKind) (z:Nat→Int) (n:Nat)
end

instance:Inhabited AV:=⟨.undef⟩
instance:Inhabited Row:=⟨.G []⟩

def aF:aw→Nat
 | .one _=>1
 | .arr _ _ n=>n
def au:List aw→Nat
 | []=>0
 | s::r=>aF s+au r
def getM:List aw→Nat→AV
 | [],_=>.undef
 | .one v::_,0=>v
 | .one _::r,j+1=>getM r j
 | .arr k z n::r,j=>if j<n then .int k (z j) else getM r (j-n)
def mapM' (f:AV→AV):List aw→List aw
 | []=>[]
 | .one v::r=>.one (f v)::mapM' f r
 | .arr k z n::r=>.arr k z n::mapM' f r
def fk:List aw→Bool
 | []=>true
 | .one _::_=>false
 | .arr _ _ _::r=>fk r
def Row.len:Row→Nat
 | .I _ l=>l.length
 | .G l=>l.length
 | .F _ n=>n
 | .M l=>au l
def Row.get:Row→Nat→AV
 | .I k l,j=>.int k (l.getD j 0)
 | .G l,j=>l.getD j .undef
 | .F f _,j=>f j
 | .M l,j=>getM l j

def c9 (g:Nat→AV):Nat→Nat→List AV
 | _,0=>[]
 | o,n+1=>g o::c9 g (o+1) n
def Row.toList:Row→List AV
 | .I k l=>l.map (.int k)
 | .G l=>l
 | .F f n=>c9 f 0 n
 | .M l=>c9 (getM l) 0 (au l)
def Row.ints:Row→Option (IntKind×(Nat→Int))
 | .I k l=>some (k,fun j=>l.getD j 0)
 | .M [.arr k z _]=>some (k,z)
 | _=>none
def wY:Row→Bool
 | .M _=>true
 | _=>false
def pn:List AV→List aw→List aw
 | [],r=>r
 | v::l,r=>.one v::pn l r
def jm:List aw→Nat→AV→List aw
 | [],_,_=>[]
 | .one _::r,0,v=>.one v::r
 | .one u::r,j+1,v=>.one u::jm r j v
 | .arr k z n::r,j,v=>if j<n then (match v with
    | .int k' x=>if k'=k then .arr k (fun i=>if i=j then x else z i) n::r else pn (c9 (fun i=>if i=j then v else .int k (z i)) 0 n) r
    | _=>pn (c9 (fun i=>if i=j then v else .int k (z i)) 0 n) r)
   else .arr k z n::jm r (j-n) v
def wh:List Int→Bool
 | []=>true
 | x::l=>x == 0 && wh l
def Mb (l:List Int):Nat→Int:=if wh l then fun _=>0 else fun j=>l.getD j 0
def cO (k:IntKind):List AV→List Int×List AV
 | .int k' n::r=>if k'=k then (match cO k r with | (a,b)=>(n::a,b)) else ([],.int k' n::r)
 | l=>([],l)
def gG:Nat→List AV→List aw
 | 0,l=>pn l []
 | _,[]=>[]
 | f+1,.int k n::r=>match cO k r with
   | (a,b)=>if Nat.ble 7 a.length then .arr k (Mb (n::a)) (a.length+1)::gG f b else .one (.int k n)::gG f r
 | f+1,v::r=>.one v::gG f r

def rF (k:IntKind):List AV→Option (List Int)
 | []=>some []
 | .int k' n::r=>if k'=k then (rF k r).map (n::·) else none
 | _=>none
def Row.ofList:List AV→Row
 | .int k n::r=>match rF k r with
   | some l=>.I k (n::l)
   | none=>.G (.int k n::r)
 | l=>.G l

def kA:List aw→Nat→Nat→Option (IntKind×(Nat→Int))
 | [],_,_=>none
 | .one _::r,o+1,n=>kA r o n
 | .one _::_,0,_=>none
 | .arr k z m::r,o,n=>if o+n≤m then some (k,fun j=>z (o+j)) else if m≤o then kA r (o-m) n else none
def Row.sub (r:Row) (o n:Nat):Row :=
 match r with
 | .I k l=>.I k ((l.drop o).take n)
 | .G l=>.G ((l.drop o).take n)
 | .F f _=>.F (fun j=>f (o+j)) n
 | .M [.arr k z _]=>.M [.arr k (fun j=>z (o+j)) n]
 | .M l=>if Nat.beq o 0 && Nat.beq (au l) n then .M l else match kA l o n with
   | some (k,z)=>.M [.arr k z n]
   | none=>.G (c9 (getM l) o n)

def gr:AV→Bool
 | .undef | .bool _ | .int _ _ | .str _ | .nilp | .nils | .nilm | .nilf=>true
 | .ptrT s _ _=>s.isNone
 | .slcT s _ _ _ _=>s.isNone
 | .agg (.I ..) | .agg (.F ..)=>true
 | .agg (.M l)=>fk l
 | _=>false

def Row.cut (r:Row) (o n:Nat):Row :=
 match r with
 | .G l=>Row.ofList ((l.drop o).take n)
 | .M l=>if Nat.ble n 8 then Row.ofList (c9 (getM l) o n) else if Nat.beq o 0 && Nat.beq (au l) n then .M l else (Row.M l).sub o n
 | r=>r.sub o n

def Row.set (r:Row) (j:Nat) (v:AV):Row :=
 match r,v with
 | .I k l,.int k' n=>if k'=k then .I k (l.set j n) else .G ((l.map (.int k)).set j v)
 | .I k l,v=>.G ((l.map (.int k)).set j v)
 | .G l,v=>.G (l.set j v)
 | .F f n,v=>.F (fun i=>if i=j then (if gr v then v else .undef) else f i) n
 | .M l,v=>.M (jm l j v)
def Row.cj (r:Row) (j:Nat):List AV→Row
 | []=>r
 | v::l=>(r.set j v).cj (j+1) l
def Row.sU (r s:Row):Option Row :=
 match r.ints,s.ints with
 | some (k,z),some (k',z')=>if k'=k then some (.M [.arr k (fun i=>if i<r.len then z i else z' (i-r.len)) (r.len+s.len)]) else none
 | _,_=>none
def mG:AV→AV
 | .slcT none (.I k l) sz m _=>.slcT none (.M [.arr k (fun j=>l.getD j 0) l.length]) sz m false
 | .slcT none (.M [.arr k z n]) sz m _=>.slcT none (.M [.arr k z n]) sz m false
 | v=>v
def pQ (n i:Nat):Nat:=if Nat.beq n 1 then 0 else i
def Row.app (r s:Row):Row :=
 match r,s with
 | .M l,s=>(match (Row.M l).sU s with | some q=>q | none=>.G ((Row.M l).toList++s.toList))
 | .I k l,.M m=>(match (Row.I k l).sU (.M m) with | some q=>q | none=>.G ((Row.I k l).toList++(Row.M m).toList))
 | .I k l,.I k' l'=>if k'=k then .I k (l++l') else .G (l.map (.int k)++l'.map (.int k'))
 | .F f n,s=>.F (fun i=>if Nat.blt i n then f i else if gr (s.get (pQ s.len (i-n))) then mG (s.get (pQ s.len (i-n))) else .undef) (n+s.len)
 | r,s=>.G (r.toList++s.toList)

def nq (k:Nat):AV→AV
 | .ptr d i v off=>.ptr (d+k) i v off
 | .ptrT s r off=>.ptrT (s.map (· + k)) r off
 | .slc d i v off sz len cap=>.slc (d+k) i v off sz len cap
 | .slcT s r sz len full=>.slcT (s.map (· + k)) r sz len full
 | .map d i=>.map (d+k) i
 | .yld d i=>.yld (d+k) i
 | .agg (.I a l)=>.agg (.I a l)
 | .fn _ _ _ | .agg _ | .tup (_::_)=>.undef
 | v=>v
def L0 (k:Nat) (v:AV):AV :=
 match v with
 | .fn f a b=>.fn f (a.map (nq k)) (b.map (nq k))
 | .agg (.G l)=>.agg (.G (l.map (nq k)))
 | .agg (.M l)=>.agg (.M (mapM' (nq k) l))
 | .agg r=>.agg r
 | v=>nq k v
def kO (k:Nat) (v:AV):AV :=
 match k with
 | 0=>v
 | k+1=>L0 (k+1) v
def Ag (k:Nat):Row→Row
 | .I a l=>.I a l
 | .G l=>.G (l.map (nq k))
 | .F f n=>.F f n
 | .M l=>.M (mapM' (nq k) l)
def Af (k:Nat) (r:Row):Row :=
 match k with
 | 0=>r
 | k+1=>Ag (k+1) r
def jR:Nat→Nat→AV→AV
 | 0,_,_=>.undef
 | n + 1,k,v=>match v with
   | .ptr d i v off=>if Nat.blt d k then .undef else .ptr (d-k) i v off
   | .ptrT none r off=>.ptrT none r off
   | .ptrT (some s) r off=>if Nat.blt s k then (match r with
     | .G l=>.ptrT (some 0) (.G (l.map (jR n (k-s)))) off
     | .M l=>if fk l then .ptrT none (.M l) off else .ptrT (some 0) (.M (mapM' (jR n (k-s)) l)) off
     | r=>.ptrT none r off) else .ptrT (some (s-k)) r off
   | .slc d i v off sz len cap=>if Nat.blt d k then .undef else .slc (d-k) i v off sz len cap
   | .slcT none r sz len full=>.slcT none r sz len full
   | .slcT (some s) r sz len full=>if Nat.blt s k then (match r with
     | .G l=>.slcT (some 0) (.G (l.map (jR n (k-s)))) sz len full
     | .M l=>if fk l then .slcT none (.M l) sz len full else .slcT (some 0) (.M (mapM' (jR n (k-s)) l)) sz len full
     | r=>.slcT none r sz len full) else .slcT (some (s-k)) r sz len full
   | .map d i=>if Nat.blt d k then .undef else .map (d-k) i
   | .yld d i=>if Nat.blt d k then .undef else .yld (d-k) i
   | .agg (.I a l)=>.agg (.I a l)
   | .fn _ _ _ | .agg _ | .tup (_::_)=>.undef
   | v=>v
def KD (k:Nat) (v:AV):AV :=
 match v with
 | .fn f a b=>.fn f (a.map (jR 4 k)) (b.map (jR 4 k))
 | .agg (.G l)=>.agg (.G (l.map (jR 4 k)))
 | .agg (.M l)=>.agg (.M (mapM' (jR 4 k) l))
 | .agg r=>.agg r
 | v=>jR 4 k v
def Ml (k:Nat) (v:AV):AV :=
 match k with
 | 0=>v
 | k+1=>KD (k+1) v
def uV (k:Nat):Row→Row
 | .I a l=>.I a l
 | .G l=>.G (l.map (jR 4 k))
 | .F f n=>.F f n
 | .M l=>.M (mapM' (jR 4 k) l)

def iP (k:Nat) (r:Row):Row :=
 match k with
 | 0=>r
 | k+1=>uV (k+1) r

abbrev az:=List (Nat×AV)
def bx:az→Nat→AV
 | [],_=>.undef
 | (x,v)::r,y=>if Nat.beq x y then v else bx r y
def sX:az→Nat→AV→az
 | [],y,u=>[(y,u)]
 | (x,v)::r,y,u=>if Nat.ble y x then (if Nat.beq x y then (y,u)::r else (y,u)::(x,v)::r) else (x,v)::sX r y u
def m4 (m x:Nat):Bool:=Nat.beq (Nat.land (Nat.shiftRight m x) 1) 1
noncomputable def bH (fr:az) (m:Nat):az:=List.rec (motive:=fun _=>az) [] (fun p _ ih=>Prod.rec (motive:=fun _=>az) (fun x _=>Bool.rec (motive:=fun _=>az) (p::ih) ih (Nat.beq (Nat.land (Nat.shiftRight m x) 1) 1)) p) fr

structure nw where
 state:LoopState
 pending:Option Code
 fn:FuncId
 nt:Nat
 fr:az
 params:List Tmp
 assign:Code
 body:Code

inductive KK where
 | num (k:IntKind)
 | str (n:Nat)
inductive av where
 | dead
 | row (r:Row)
 | map (es:List (AV×AV))
 | fmap (q:KK) (h:List Int→Bool) (g:List Int→Int) (c:Nat)
 | loop (l:nw)

structure bL where
 lock:Bool
 bs:List (Nat×av)
abbrev aa:=List bL

def ao:List (Nat×av)→Nat→Nat×av
 | [],_=>(0,.dead)
 | b::_,0=>b
 | _::r,i+1=>ao r i
def bB:List (Nat×av)→Nat→Nat×av→List (Nat×av)
 | [],_,_=>[]
 | _::r,0,x=>x::r
 | b::r,i+1,x=>b::bB r i x
def ar:aa→Nat→Nat→Nat×av
 | [],_,_=>(0,.dead)
 | l::_,0,i=>ao l.bs i
 | _::r,d+1,i=>ar r d i
def aC:aa→Nat→Bool
 | [],_=>true
 | l::_,0=>l.lock
 | _::r,d+1=>aC r d
def dE:aa→Nat→Nat→Nat×av→aa
 | [],_,_,_=>[]
 | l::r,0,i,x=>{ l with bs:=bB l.bs i x } :: r
 | l::r,d+1,i,x=>l::dE r d i x
def dH (H:aa) (d i:Nat):aa:=dE H d i ((ar H d i).1,.dead)
def iy:aa→av→aa
 | [],b=>[⟨false,[(0,b)]⟩]
 | l::r,b=>{ l with bs:=l.bs++[(0,b)] } :: r
def bk:aa→Nat→av→aa
 | [],_,_=>[]
 | l::r,0,b=>{ l with bs:=l.bs++[(0,b)] } :: r
 | l::r,d+1,b=>l::bk r d b
def aj:aa→Nat→Nat
 | [],_=>0
 | l::_,0=>l.bs.length
 | _::r,d+1=>aj r d
def aN:aa→Nat
 | []=>0
 | l::_=>l.bs.length
def bm:aa→aa
 | []=>[]
 | l::r=>{ l with lock:=true } :: bm r

def cG (H:aa) (d i v:Nat):Option Row :=
 match ar H d i with
 | (ver,.row r)=>if Nat.beq ver v then some r else none
 | _=>none

def rb:Value→AV
 | .bool b=>.bool b
 | .int k n=>.int k n
 | .string s=>.str s
 | .pointer none=>.nilp
 | .slice none 0 0=>.nils
 | .map none=>.nilm
 | .nilFunc=>.nilf
 | _=>.undef
def j0:Value→AV
 | .bool b=>.bool b
 | .int k n=>.int k n
 | .string s=>.str s
 | .pointer none=>.nilp
 | .slice none 0 0=>.nils
 | .map none=>.nilm
 | .nilFunc=>.nilf
 | .func (.func f) ca cb=>if ca.isEmpty && cb.isEmpty then .fn (.func f) [] [] else .undef
 | .agg cs=>if cs.toList.all Value.oneCell' then .agg (Row.ofList (cs.toList.map rb)) else .undef
 | .tuple cs=>if cs.isEmpty then .tup [] else .undef
 | _=>.undef

def bE (fr:az):Operand→AV
 | .tmp t=>bx fr t
 | .const v=>j0 v
 | .global _=>.undef
 | .func f=>.fn (.func f) [] []

def AV.row:AV→Option Row
 | .agg r=>some r
 | .int k n=>some (.I k [n])
 | .undef | .tup _=>none
 | v=>some (.G [v])

def ey (P:Program) (t:TypeId):Option Bool :=
 match P.underlying t with
 | some (.struct _) | some (.array _ _)=>some true
 | some _=>some false
 | none=>none
def bg (P:Program) (t:TypeId):Option Nat:=(P.info? t).map (·.size)
def cn (P:Program) (t:TypeId):Option AV:=((P.info? t).bind (·.zero)).map j0

inductive Delta where
 | a8
 | push (b:av)
 | set (d i:Nat) (b:Nat×av)
 | heap (H:aa)
def Delta.on (δ:Delta) (H:aa):aa :=
 match δ with
 | .a8=>H
 | .push b=>iy H b
 | .set d i b=>dE H d i b
 | .heap H=>H

inductive L1 where
 | fn (f:FuncId)
 | round (d i:Nat)
 | mode
abbrev aA:=L1→List AV→aa→Option (AV×aa)

def gy (op:BinOp) (k:IntKind) (x y:Int):Option AV :=
 match op with
 | .add=>some (.int k (k.wrap (x+y)))
 | .sub=>some (.int k (k.wrap (x-y)))
 | .mul=>some (.int k (k.wrap (x*y)))
 | .quo=>if y=0 then none else some (.int k (k.wrap (x.tdiv y)))
 | .rem=>if y=0 then none else some (.int k (x.tmod y))
 | .and=>some (.int k (k.wrap (BitVec.ofInt k.bits x &&& BitVec.ofInt k.bits y).toNat))
 | .or=>some (.int k (k.wrap (BitVec.ofInt k.bits x ||| BitVec.ofInt k.bits y).toNat))
 | .xor=>some (.int k (k.wrap (BitVec.ofInt k.bits x ^^^ BitVec.ofInt k.bits y).toNat))
 | .andNot=>some (.int k (k.wrap (BitVec.ofInt k.bits x &&& ~~~(BitVec.ofInt k.bits y)).toNat))
 | .eql=>some (.bool (x == y))
 | .neq=>some (.bool (x != y))
 | .lss=>some (.bool (x<y))
 | .leq=>some (.bool (x≤y))
 | .gtr=>some (.bool (x > y))
 | .geq=>some (.bool (x≥y))
 | _=>none

def fq (P:Program) (g:TypeId→Option Nat) (off:Nat):List Field→Option Nat
 | []=>some off
 | f::fs=>if f.name != "_" && Nat.beq f.offset off then (match g f.type with
   | some s=>fq P g (off+s) fs
   | none=>none) else none
def bU (P:Program):Nat→TypeId→Option Nat
 | 0,_=>none
 | n + 1,t=>match P.underlying t with
   | some (.int _)=>if bg P t=some 1 then some 1 else none
   | some (.array len e)=>match bU P n e with
     | some s=>if bg P t=some (len*s) then some (len*s) else none
     | none=>none
   | some (.struct fs)=>if P.stoodInHeld t then none else match fq P (bU P n) 0 fs.toList with
     | some s=>if bg P t=some s then some s else none
     | none=>none
   | _=>none

def ev:List Int→List Int→Bool
 | [],[]=>true
 | x::a,y::b=>(x == y) && ev a b
 | _,_=>false

def allEq (z z':Nat→Int):Nat→Bool
 | 0=>true
 | n+1=>allEq z z' n && (z n == z' n)
def JY (P:Program) (t:TypeId) (r s:Row):Option Bool :=
 match r.ints,s.ints with
 | some (k,z),some (k',z')=>if k=k'∧bU P 20 t=some r.len∧ey P t=some true∧r.len=s.len then some (allEq z z' r.len) else none
 | _,_=>none
def yL (P:Program) (t:TypeId) (x y:AV):Option Bool :=
 match x,y with
 | .bool a,.bool b=>(match P.underlying t with | some .bool=>some (a == b) | _=>none)
 | .nils,.nils | .nils,.slcT .. | .nils,.slc .. | .slcT ..,.nils | .slc ..,.nils =>
   (match P.underlying t with
   | some (.slice _)=>(match x,y with
     | .nils,.nils=>some true
     | .nils,.slcT _ _ _ n _=>if 0<n then some false else none
     | .slcT _ _ _ n _,.nils=>if 0<n then some false else none
     | _,_=>some false)
   | _=>none)
 | .nilp,.nilp | .nilp,.ptr .. | .nilp,.ptrT .. | .ptr ..,.nilp | .ptrT ..,.nilp =>
   (match P.underlying t with
   | some (.pointer _)=>some (match x,y with | .nilp,.nilp=>true | _,_=>false)
   | _=>none)
 | .agg (.I k a),.agg (.I k' b)=>if k=k'∧bU P 20 t=some a.length∧ey P t=some true∧a.length=b.length then some (ev a b) else none
 | .agg (.M l),.agg s=>JY P t (.M l) s
 | .agg (.I k a),.agg (.M l)=>JY P t (.I k a) (.M l)
 | _,_=>none

def jt (P:Program) (op:BinOp) (t:TypeId) (x y:AV):Option AV :=
 match op,x,y with
 | .shl,.int k a,.int _ b=>if b<0 then none else some (.int k (k.wrap (a*2 ^ (min b.toNat k.bits))))
 | .shr,.int k a,.int _ b=>if b<0 then none else some (.int k (a.fdiv (2 ^ (min b.toNat k.bits))))
 | op,.int k a,.int k' b=>if k=k' then gy op k a b else none
 | .eql,x,y=>(yL P t x y).map .bool
 | .neq,x,y=>(yL P t x y).map fun b=>.bool (!b)
 | _,_,_=>none

def LW (op:UnOp) (x:AV):Option AV :=
 match op,x with
 | .not,.bool b=>some (.bool !b)
 | .neg,.int k n=>some (.int k (k.wrap (0-n)))
 | _,_=>none

def ng {α:Type} (l:List α):Nat→List α
 | 0=>[]
 | n+1=>l++ng l n
def dw (z:Row) (n:Nat):Row :=
 match z with
 | .I k l=>.I k (ng l n)
 | z=>.G (ng z.toList n)
def DF (l:List AV) (n:Nat):Row :=
 match l with
 | [v]=>if gr v then .F (fun _=>v) n else .G (ng l n)
 | l=>.G (ng l n)
def dj (z:Row) (n:Nat):Row :=
 match z with
 | .I k l=>if wh l then .M [.arr k (fun _=>0) (n*l.length)] else .I k (ng l n)
 | z=>DF z.toList n
def iS (r:Row):Row :=
 match r with
 | .I k l=>if Nat.ble 8 l.length then .M [.arr k (Mb l) l.length] else .I k l
 | .G l=>if (gG l.length l).length == l.length then .G l else .M (gG l.length l)
 | r=>r
def zf (z:Nat→Int) (off:Nat) (z':Nat→Int) (n:Nat):Nat→Int:=fun i=>if off≤i∧i<off+n then z' (i-off) else z i
def xD:List aw→Nat→Nat→List aw→Option (List aw)
 | [],_,_,_=>none
 | .one v::r,o+1,n,q=>(xD r o n q).map (.one v::·)
 | .one _::_,0,_,_=>none
 | .arr k z m::r,o,n,q=>if Nat.beq o 0 && Nat.beq m n then some (q++r) else if Nat.ble m o then (xD r (o-m) n q).map (.arr k z m::·) else none
def Hh (q:Row):Option (List aw) :=
 match iS q with
 | .M l=>some l
 | _=>none
def vE (l:List aw) (off:Nat) (q:Row):Row :=
 if Nat.ble 9 q.len then (match Hh q with
  | some qs=>if Nat.beq off 0 && Nat.beq (au l) q.len then .M qs else (match xD l off q.len qs with
    | some l'=>.M l'
    | none=>(Row.M l).cj off q.toList)
  | none=>(Row.M l).cj off q.toList)
 else (Row.M l).cj off q.toList
def jl (r:Row) (off:Nat) (q:Row):Row :=
 match r with
 | .M l=>(match l with
   | [.arr k z m]=>(match q with
     | .M [.arr k' z' n]=>if k'=k then .M [.arr k (zf z off z' n) m] else vE l off q
     | _=>vE l off q)
   | _=>vE l off q)
 | r=>r.cj off q.toList
def pP:AV→Bool
 | .slcT none (.M [.arr _ _ _]) _ _ _=>true
 | .slcT none (.I _ _) _ _ _=>true
 | _=>false
def qf (sy:Bool) (r:Row):Row :=
 match r with
 | .I k l=>if sy then .M [.arr k (fun j=>l.getD j 0) l.length] else .I k l
 | .G [v]=>if sy && pP v then .F (fun _=>mG v) 1 else .G [v]
 | r=>r
def rq (place:Nat→Option (Nat×Nat)) (r:Row):List (Nat×AV)→Option Row
 | []=>some r
 | (i,v)::rest=>match place i with
   | none=>none
   | some (off,size)=>match v.row with
     | some q=>if q.len=size∧off+q.len≤r.len then rq place (r.cj off q.toList) rest else none
     | none=>none

def gK (P:Program) (t:TypeId) (r:Row) (off:Nat):Option AV :=
 match ey P t,bg P t with
 | some true,some n=>if off+n≤r.len then some (.agg (r.cut off n)) else none
 | some false,_=>if off<r.len then some (r.get off) else none
 | _,_=>none

def OK (s:Option Nat) (v:AV):AV :=
 match s with
 | none=>v
 | some k=>kO k v

def lz (P:Program) (H:aa) (t:TypeId) (a:AV):Option AV :=
 match a with
 | .ptr d i v off=>match cG H d i v with
   | some r=>(gK P t r off).map (kO d)
   | none=>none
 | .ptrT s r off=>(gK P t r off).map (OK s)
 | _=>none

def fC (P:Program) (H:aa) (t:TypeId) (a x:AV):Option Delta :=
 match a with
 | .ptr d i v off =>
   if aC H d then none else
   match cG H d i v,bg P t,x.row with
   | some r,some n,some q =>
     if q.len=n∧off+n≤r.len then
      match d,x with
      | d+1,.slc 0 j w o sz len cap=>if aC H 0 then none else match cG H 0 j w with
        | some q=>some (.heap (bk (dE (dH H 0 j) (d+1) i (v,.row (r.set off (.slc 0 (aj H (d+1)) 0 o sz len cap)))) (d+1) (.row (iP (d+1) q))))
        | none=>none
      | _,_=>some (.set d i (v,.row (jl r off (iP d q))))
     else none
   | _,_,_=>none
 | _=>none

def ku (P:Program):List Field→Option (List (Nat×Nat))
 | []=>some []
 | f::fs=>match bg P f.type,ku P fs with
   | some n,some l=>some ((f.offset,n)::l)
   | _,_=>none

def uR (P:Program) (sy:Bool) (t:TypeId) (parts:List (Nat×AV)):Option AV :=
 match cn P t,P.underlying t with
 | some (.agg z),some (.struct fs)=>match ku P fs.toList with
   | some l=>(rq (fun i=>l[i]?) (if sy then iS z else z) parts).map .agg
   | none=>none
 | some (.agg z),some (.array _ e)=>match bg P e with
   | some n=>(rq (fun i=>some (i*n,n)) (if sy then iS z else z) parts).map .agg
   | none=>none
 | _,_=>none

def jU (a:AV) (n:Nat):Option AV :=
 match a with
 | .ptr d i v off=>some (.ptr d i v (off+n))
 | .ptrT s r off=>some (.ptrT s r (off+n))
 | _=>none

def fL (P:Program) (t:TypeId) (a:AV) (f:Nat):Option AV :=
 match P.underlying t with
 | some (.struct fs)=>match fs[f]? with
   | some g=>match bg P g.type with
     | some (_+1)=>jU a g.offset
     | _=>none
   | none=>none
 | _=>none

def eO (P:Program) (t:TypeId) (x:AV) (i:Int):Option AV :=
 match P.underlying t,x with
 | some (.array n e),x=>match bg P e with
   | some z=>if 0≤i∧i<n then jU x (i.toNat*z) else none
   | none=>none
 | some (.slice e),.slc d j v off sz len _ =>
   if 0≤i∧i<len∧bg P e=some sz then some (.ptr d j v (off+i.toNat*sz)) else none
 | some (.slice e),.slcT s r sz len _ =>
   if 0≤i∧i<len∧bg P e=some sz then some (.ptrT s r (i.toNat*sz)) else none
 | _,_=>none

def o8 (P:Program) (t:TypeId) (x:AV) (i:Int):Option AV :=
 match P.underlying t,x with
 | some (.array n e),.agg r=>match bg P e with
   | some z=>if 0≤i∧i<n then gK P e r (i.toNat*z) else none
   | none=>none
 | some .string,.str s=>if 0≤i then (match s[i.toNat]? with
   | some b=>some (.int .u8 b.toNat)
   | none=>none) else none
 | _,_=>none

def rp (P:Program) (t:TypeId) (x:AV) (f:Nat):Option AV :=
 match P.underlying t,x with
 | some (.struct fs),.agg r=>match fs[f]? with
   | some g=>gK P g.type r g.offset
   | none=>none
 | _,_=>none

def bound (o:Option AV) (dflt top:Nat):Option Nat :=
 match o with
 | none=>some dflt
 | some (.int _ i)=>if 0≤i∧i≤top then some i.toNat else none
 | some _=>none

def dF (lo hi mx:Option AV) (len:Nat):Option (Nat×Nat×Option Nat) :=
 match mx with
 | none=>match bound hi len len with
   | some h=>match bound lo 0 h with
     | some l=>some (l,h,none)
     | none=>none
   | none=>none
 | some a=>match bound (some a) 0 len with
   | some m=>if hi.isSome then (match bound hi len m with
     | some h=>match bound lo 0 h with
       | some l=>some (l,h,some m)
       | none=>none
     | none=>none) else none
   | none=>none

def py (P:Program) (t:TypeId) (x:AV) (lo hi mx:Option AV):Option AV :=
 match P.underlying t,x with
 | some (.slice e),.slc d j v off sz len cap =>
   match dF lo hi mx len with
   | some (l,h,mm)=>if bg P e=some sz then
      some (.slc d j v (off+l*sz) sz (h-l) (match mm with | none=>cap.map (· - l) | some m=>some (m-l))) else none
   | none=>none
 | some (.slice e),.slcT s r sz len full =>
   match dF lo hi mx len with
   | some (l,h,mm)=>if bg P e=some sz∧l*sz+(h-l)*sz≤r.len then
      some (.slcT s (r.sub (l*sz) ((h-l)*sz)) sz (h-l) (match mm with | none=>full && Nat.beq h len | some m=>Nat.beq h m)) else none
   | none=>none
 | some (.slice e),.nils =>
   match dF lo hi mx 0,bg P e with
   | some _,some _=>some .nils
   | _,_=>none
 | some (.array n e),.ptr d j v off =>
   match dF lo hi mx n with
   | some (l,h,mm)=>match bg P e with
     | some sz=>some (.slc d j v (off+l*sz) sz (h-l) (match mm with | none=>some (n-l) | some m=>some (m-l)))
     | none=>none
   | none=>none
 | _,_=>none

def tg (P:Program) (H:aa) (t:TypeId) (x:AV):Option Int :=
 match P.underlying t,x with
 | some (.array n _),_=>some n
 | some (.slice _),.nils=>some 0
 | some (.slice _),.slc _ _ _ _ _ len _=>some len
 | some (.slice _),.slcT _ _ _ len _=>some len
 | some (.map _ _),.nilm=>some 0
 | some (.map _ _),.map d i=>match ar H d i with
   | (0,.map es)=>some es.length
   | (0,.fmap _ _ _ c)=>some c
   | _=>none
 | _,_=>none

def Iy (P:Program) (t:TypeId) (x:AV):Option Int :=
 match P.underlying t,x with
 | some (.slice _),.nils=>some 0
 | some (.slice _),.slc _ _ _ _ _ _ (some c)=>some c
 | _,_=>none

def dO (H:aa) (sz n:Nat) (x:AV):Option Row :=
 match x with
 | .nils=>if n=0 then some (.G []) else none
 | .slc d i v off sz' len _=>match cG H d i v with
   | some r=>if sz'=sz∧n≤len∧off+n*sz≤r.len then some (Af d (r.sub off (n*sz))) else none
   | none=>none
 | .slcT s r sz' len _=>if sz'=sz∧n≤len∧n*sz≤r.len then some (match s with | none=>r.sub 0 (n*sz) | some k=>Af k (r.sub 0 (n*sz))) else none
 | _=>none
def mU:AV→Option Nat
 | .nils=>some 0
 | .slc _ _ _ _ _ len _=>some len
 | .slcT _ _ _ len _=>some len
 | _=>none

def room:Nat:=2 ^ 46

def C5 (P:Program) (sy:Bool) (nx:Nat) (e:TypeId) (s x:AV):Option (AV×Delta) :=
 match P.info? e,s,x with
 | some inf,.nils,.int _ k =>
   if 0≤k∧k.toNat≤room∧k.toNat*inf.bytes≤room∧0<inf.size∧((cn P e).bind AV.row).map Row.len=some inf.size then
    (if k=0 then some (.nils,.a8) else some (.slc 0 nx 0 0 inf.size k.toNat none,.push (.row (qf sy (.I .i64 [])))))
   else none
 | _,_,_=>none
def nC      (P:Program) (sy:Bool) (H:aa) (nx:Nat) (t u:TypeId) (s x:AV):Option (AV×Delta) :=
 match P.underlying t,P.underlying u with
 | some (.slice e),some (.int _)=>C5 P sy nx e s x
 | some (.slice e),some (.slice _) =>
   match P.info? e,mU s,mU x with
   | some inf,some m,some n =>
     if n=0 then (match s,x with
      | .nils,_=>some (s,.a8)
      | .slc ..,_=>some (s,.a8)
      | .slcT ..,_=>some (s,.a8)
      | _,_=>none)
     else if (m+n)*inf.bytes≤room∧(m+n)≤room∧0<inf.bytes∧((cn P e).bind AV.row).map Row.len=some inf.size then
      match dO H inf.size n x with
      | none=>none
      | some new =>
        match s with
        | .nils=>some (.slc 0 nx 0 0 inf.size n none,.push (.row (qf sy new)))
        | .slcT _ _ _ _ true=>match dO H inf.size m s with
          | some old=>some (.slc 0 nx 0 0 inf.size (m+n) none,.push (.row (qf sy (old.app new))))
          | none=>none
        | .slc d i v off sz _ (some c) =>
          if c<m+n then
           match dO H inf.size m s with
           | some old=>some (.slc 0 nx 0 0 inf.size (m+n) none,.push (.row (qf sy (old.app new))))
           | none=>none
          else if aC H d then none else
           match cG H d i v with
           | some r=>if sz=inf.size∧off+(m+n)*sz≤r.len then
              some (.slc d i v off sz (m+n) (some c),.set d i (v,.row (r.cj (off+m*sz) (iP d new).toList)))
             else none
           | none=>none
        | .slc d i v off sz _ none =>
          if aC H d then none else
          match cG H d i v with
          | some r=>if sz=inf.size∧off+m*sz=r.len then
             some (.slc d i (v+1) 0 sz (m+n) none,.set d i (v+1,.row ((r.sub off (m*sz)).app (iP d new))))
            else none
          | none=>none
        | _=>none
     else none
   | _,_,_=>none
 | _,_=>none

def copyV (P:Program) (H:aa) (t:TypeId) (s x:AV):Option (AV×Delta) :=
 match P.underlying t with
 | some (.slice e) =>
   match bg P e,mU s,mU x with
   | some z,some m,some n =>
     match dO H z (min n m) x with
     | none=>none
     | some new =>
       match s with
       | .nils=>some (.int .i64 (min n m:Nat),.a8)
       | .slc d i v off sz _ _ =>
         if aC H d then none else
         match cG H d i v with
         | some r=>if sz=z∧off+(min n m)*sz≤r.len then
            some (.int .i64 (min n m:Nat),.set d i (v,.row (jl r off (iP d new))))
           else none
         | none=>none
       | _=>none
   | _,_,_=>none
 | _=>none

def qZ (P:Program) (H:aa) (t:TypeId) (s:AV):Option (AV×Delta) :=
 match P.underlying t,s with
 | some (.slice _),.nils=>some (.tup [],.a8)
 | some (.slice e),.slc d i v off sz len _ =>
   if aC H d then none else
   match (cn P e).bind AV.row,cG H d i v with
   | some z,some r=>if z.len=sz∧bg P e=some sz∧off+len*sz≤r.len then
      some (.tup [],if len=0 then .a8 else .set d i (v,.row (if wY r then jl r off (dj z len) else r.cj off (dw z len).toList)))
     else none
   | _,_=>none
 | _,_=>none

def dT (mx:Bool) (k:IntKind) (x:Int):List AV→Option AV
 | []=>some (.int k x)
 | .int k' y::r=>if k=k' then dT mx k (if mx then (if y > x then y else x) else (if y<x then y else x)) r else none
 | _=>none
def m5 (mx:Bool):List AV→Option AV
 | .int k x::r=>dT mx k x r
 | _=>none

def iE (P:Program) (sy:Bool) (nx:Nat) (t:TypeId) (l c:AV):Option (AV×Delta) :=
 match P.underlying t,l,c with
 | some (.slice e),.int _ l,.int _ c =>
   match P.info? e,(cn P e).bind AV.row with
   | some inf,some z =>
     if 0≤l∧l≤c∧c.toNat*inf.bytes≤room∧c.toNat≤room∧z.len=inf.size then
      some (.slc 0 nx 0 0 inf.size l.toNat (some c.toNat),.push (.row (if sy then dj z c.toNat else dw z c.toNat)))
     else none
   | _,_=>none
 | _,_,_=>none

def iV (P:Program) (nx:Nat) (t:TypeId) (len:Nat) (parts:List (Nat×AV)):Option (AV×Delta) :=
 match P.underlying t with
 | some (.slice e)=>match bg P e,(cn P e).bind AV.row with
   | some z,some zv =>
     if len*z≤2 ^ 24∧zv.len=z then
      (rq (fun i=>some (i*z,z)) (dw zv len) parts).map fun r=>(.slc 0 nx 0 0 z len (some len),.push (.row r))
     else none
   | _,_=>none
 | _=>none

def nZ (x y:AV):Option Bool :=
 match x,y with
 | .int k a,.int k' b=>if k=k' then some (a == b) else none
 | .agg (.I k a),.agg (.I k' b)=>if k=k'∧a.length=b.length then some (ev a b) else none
 | _,_=>none
def fp (key:AV):List (AV×AV)→Nat→Option (Option Nat)
 | [],_=>some none
 | (k,_)::r,i=>match nZ key k with
   | some true=>some (some i)
   | some false=>fp key r (i+1)
   | none=>none
def jj (P:Program) (t:TypeId) (x:AV):Bool :=
 match P.underlying t,x with
 | some (.int _),.int _ _=>true
 | some (.array _ _),.agg (.I _ l)=>bU P 20 t == some l.length
 | some (.struct _),.agg (.I _ l)=>bU P 20 t == some l.length
 | _,_=>false
def tQ (H:aa) (m:AV):Option (Nat×List (AV×AV)) :=
 match m with
 | .nilm=>some (0,[])
 | .map d i=>match ar H d i with
   | (0,.map es)=>some (d,es)
   | _=>none
 | _=>none
def m9:List (AV×AV)→Nat→AV
 | [],_=>.undef
 | e::_,0=>e.2
 | _::r,i+1=>m9 r i
def ni:List (AV×AV)→Nat→AV×AV→List (AV×AV)
 | [],_,_=>[]
 | _::r,0,x=>x::r
 | e::r,i+1,x=>e::ni r i x
def mN:List (AV×AV)→Nat→List (AV×AV)
 | [],_=>[]
 | _::r,0=>r
 | e::r,i+1=>e::mN r i
def tW (H:aa) (m:AV):Option (KK×(List Int→Bool)×(List Int→Int)×Nat) :=
 match m with
 | .map d i=>match ar H d i with
   | (0,.fmap q h g c)=>some (q,h,g,c)
   | _=>none
 | _=>none
def te:KK→AV→Option (List Int)
 | .num k,.int k' n=>if k=k' then some [n] else none
 | .str m,.agg (.I .i64 l)=>if Nat.beq l.length m then some l else none
 | _,_=>none
def K1:AV→Option KK
 | .int k _=>some (.num k)
 | .agg (.I .i64 l)=>some (.str l.length)
 | _=>none
def xu:AV→Option Int
 | .int .i64 n=>some n
 | _=>none
def eS (h:List Int→Bool) (n:List Int) (b:Bool):List Int→Bool:=fun i=>if i=n then b else h i
def gY (g:List Int→Int) (n:List Int) (x:Int):List Int→Int:=fun i=>if i=n then x else g i
def sW (b:Bool) (c:Nat):Nat:=cond b c (c+1)
def wk (b:Bool) (c:Nat):Nat:=cond b (c-1) c
def rZ (P:Program) (t:TypeId):av :=
 match P.underlying t with
 | some (.map kt et)=>match (cn P kt).bind K1,(cn P et).bind xu with
   | some q,some _=>.fmap q (fun _=>false) (fun _=>0) 0
   | _,_=>.map []
 | _=>.map []
def oc (P:Program) (H:aa) (t:TypeId) (m key:AV) (ok:Bool):Option AV :=
 match P.underlying t with
 | some (.map kt et) =>
   if jj P kt key then
    match tW H m with
    | some (q,h,g,_)=>match te q key,(cn P et).bind xu with
      | some n,some 0=>some (if ok then .tup [.int .i64 (g n),.bool (h n)] else .int .i64 (g n))
      | _,_=>none
    | none=>match tQ H m,cn P et with
    | some (d,es),some z=>match fp key es 0 with
      | some (some i)=>some (if ok then .tup [kO d (m9 es i),.bool true] else kO d (m9 es i))
      | some none=>some (if ok then .tup [z,.bool false] else z)
      | none=>none
    | _,_=>none
   else none
 | _=>none
def jg (P:Program) (H:aa) (t:TypeId) (m key x:AV):Option Delta :=
 match P.underlying t,m with
 | some (.map kt _),.map d i =>
   if aC H d then none else
   if jj P kt key then
    match ar H d i with
    | (0,.fmap q h g c)=>match te q key,xu x with
      | some n,some y=>some (.set d i (0,.fmap q (eS h n true) (gY g n y) (sW (h n) c)))
      | _,_=>none
    | (0,.map es)=>match fp key es 0 with
      | some (some j)=>some (.set d i (0,.map (ni es j (key,Ml d x))))
      | some none=>some (.set d i (0,.map (es++[(key,Ml d x)])))
      | none=>none
    | _=>none
   else none
 | _,_=>none
def nG (P:Program) (H:aa) (t:TypeId) (m key:AV):Option (AV×Delta) :=
 match P.underlying t,m with
 | some (.map kt _),.map d i =>
   if aC H d then none else
   if jj P kt key then
    match ar H d i with
    | (0,.fmap q h g c)=>match te q key with
      | some n=>some (.tup [],.set d i (0,.fmap q (eS h n false) (gY g n 0) (wk (h n) c)))
      | none=>none
    | (0,.map es)=>match fp key es 0 with
      | some (some j)=>some (.tup [],.set d i (0,.map (mN es j)))
      | some none=>some (.tup [],.set d i (0,.map es))
      | none=>none
    | _=>none
   else none
 | _,_=>none

def dv (fr:az):List (Nat×Operand)→List (Nat×AV)
 | []=>[]
 | (i,x)::r=>(i,bE fr x)::dv fr r
def jk (fr:az):List Operand→List AV
 | []=>[]
 | x::r=>bE fr x::jk fr r

def kN {α:Type} (call:aA) (a b:α):α :=
 match call .mode [] [] with
 | some _=>a
 | none=>b
def eU (P:Program) (call:aA) (fr:az) (H:aa) (nx:Nat) (c:Call):Option (AV×Delta) :=
 match c.callee with
 | .value f=>match bE fr f with
   | .fn (.func g) a b=>(call (.fn g) (a++(jk fr c.args.toList++b)) H).map fun (v,H)=>(v,.heap H)
   | .yld d i=>(call (.round d i) (jk fr c.args.toList) H).map fun (v,H)=>(v,.heap H)
   | _=>none
 | .builtin .len=>match c.args.toList,c.argTypes.toList with
   | x::_,t::_=>(tg P H t (bE fr x)).map fun n=>(.int .i64 n,.a8)
   | _,_=>none
 | .builtin .cap=>match c.args.toList,c.argTypes.toList with
   | x::_,t::_=>(Iy P t (bE fr x)).map fun n=>(.int .i64 n,.a8)
   | _,_=>none
 | .builtin .append=>match c.args.toList,c.argTypes.toList with
   | s::x::_,t::u::_=>nC P (kN call true false) H nx t u (bE fr s) (bE fr x)
   | _,_=>none
 | .builtin .copy=>match c.args.toList,c.argTypes.toList with
   | s::x::_,t::_=>copyV P H t (bE fr s) (bE fr x)
   | _,_=>none
 | .builtin .clear=>match c.args.toList,c.argTypes.toList with
   | s::_,t::_=>qZ P H t (bE fr s)
   | _,_=>none
 | .builtin .delete=>match c.args.toList,c.argTypes.toList with
   | m::k::_,t::_=>nG P H t (bE fr m) (bE fr k)
   | _,_=>none
 | .builtin .min=>(m5 false (jk fr c.args.toList)).map fun v=>(v,.a8)
 | .builtin .max=>(m5 true (jk fr c.args.toList)).map fun v=>(v,.a8)
 | _=>none

def kp (o:Option AV):Option (AV×Delta):=o.map fun v=>(v,.a8)

def evalOp (P:Program) (call:aA) (fr:az) (H:aa) (nx:Nat) (o:Oper):Option (AV×Delta) :=
 match o.op with
 | .move x | .assign x=>some (bE fr x,.a8)
 | .pick c a b=>match bE fr c with
   | .bool t=>some (if t then bE fr a else bE fr b,.a8)
   | _=>none
 | .alloc t=>((cn P t).bind AV.row).map fun z=>(.ptr 0 nx 0 0,.push (.row (kN call (iS z) z)))
 | .box _ x=>(bE fr x).row.map fun r=>(.ptr 0 nx 0 0,.push (.row (kN call (iS r) r)))
 | .build t parts=>kp (uR P (kN call true false) t (dv fr parts.toList))
 | .buildSlice t len parts=>iV P nx t len (dv fr parts.toList)
 | .load t a=>kp (lz P H t (bE fr a))
 | .store t a x=>(fC P H t (bE fr a) (bE fr x)).map fun δ=>(.tup [],δ)
 | .nilCheck x=>match bE fr x with
   | .ptr d i v off=>some (.ptr d i v off,.a8)
   | .ptrT s r off=>some (.ptrT s r off,.a8)
   | _=>none
 | .binOp op t x y _=>kp (jt P op t (bE fr x) (bE fr y))
 | .unOp op _ x=>kp (LW op (bE fr x))
 | .convert src dst x=>match P.underlying src,P.underlying dst,bE fr x with
   | some _,some (.int k),.int _ n=>some (.int k (k.wrap n),.a8)
   | _,_,_=>none
 | .makeFunc fn first cap=>match fn with
   | .func g=>some (.fn (.func g) (jk fr first.toList) (jk fr cap.toList),.a8)
   | _=>none
 | .makeSlice t l c=>iE P (kN call true false) nx t (bE fr l) (bE fr c)
 | .slice t x lo hi mx=>kp (py P t (bE fr x) (lo.map (bE fr)) (hi.map (bE fr)) (mx.map (bE fr)))
 | .fieldAddr t x f=>kp (fL P t (bE fr x) f)
 | .field t x f=>kp (rp P t (bE fr x) f)
 | .indexAddr t x i=>match bE fr i with
   | .int _ n=>kp (eO P t (bE fr x) n)
   | _=>none
 | .index t x i=>match bE fr i with
   | .int _ n=>kp (o8 P t (bE fr x) n)
   | _=>none
 | .makeMap t none=>some (.map 0 nx,.push (kN call (rZ P t) (.map [])))
 | .lookup t m k ok=>kp (oc P H t (bE fr m) (bE fr k) ok)
 | .mapUpdate t m k x | .insert t m k x=>(jg P H t (bE fr m) (bE fr k) (bE fr x)).map fun δ=>(.tup [],δ)
 | .extract t ix=>match bE fr t with
   | .tup l=>match l[ix]? with
     | some v=>some (v,.a8)
     | none=>none
   | _=>none
 | .call c=>eU P call fr H nx c
 | _=>none

inductive Want where
 | run | skip | lost
def gw (ops:Array Oper) (fr:az) (o:Oper):Want :=
 match o.guard with
 | none=>.run
 | some (j,want)=>match (ops[j]?).bind (·.dst) with
   | none=>.lost
   | some d=>match bx fr d with
     | .bool b=>if b == want then .run else .skip
     | .tup _=>.skip
     | _=>.lost

def gF (nt:Nat) (fr:az) (dst:Option Tmp) (v:AV):az :=
 match dst with
 | some d=>if Nat.blt d nt then sX fr d v else fr
 | none=>fr

def dV (P:Program) (nt:Nat) (call:aA) (ops:Array Oper):List Oper→az→aa→Option (az×aa)
 | [],fr,H=>some (fr,H)
 | o :: r,fr,H=>match gw ops fr o with
   | .lost=>none
   | .skip=>dV P nt call ops r (gF nt fr o.dst (.tup [])) H
   | .run=>match evalOp P call fr H (aN H) o with
     | none=>none
     | some (v,δ)=>dV P nt call ops r (gF nt fr o.dst v) (δ.on H)

inductive Touch where
 | none
 | blk (d i:Nat)
 | all
structure Rec where
 ix:Nat
 reads:Touch
 writes:Option (Nat×Nat)
def ct (fr:az) (o:Oper):Touch :=
 let at' (v:AV):Touch:=match v with
  | .ptr d i _ _=>.blk d i
  | .slc d i _ _ _ _ _=>.blk d i
  | .map d i=>.blk d i
  | _=>.none
 match o.op with
 | .load _ a=>at' (bE fr a)
 | .store _ a _=>at' (bE fr a)
 | .lookup _ m _ _=>at' (bE fr m)
 | .mapUpdate _ m _ _ | .insert _ m _ _=>at' (bE fr m)
 | .call c=>match c.callee with
   | .builtin .len=>match c.args.toList with
     | x::_=>match bE fr x with | .map d i=>.blk d i | _=>.none
     | _=>.all
   | .builtin .min | .builtin .max=>.none
   | _=>.all
 | _=>.none
def cJ (H:aa) (bef:Nat):List Rec→aa
 | []=>H
 | r::l=>match r.writes with
   | some (d,i)=>if bef.testBit r.ix then cJ H bef l else cJ (dH H d i) bef l
   | none=>cJ H bef l
def iG (bef:Nat) (d i:Nat):List Rec→Bool
 | []=>true
 | r::l=>(bef.testBit r.ix || (match r.reads with
   | .none=>true
   | .blk e j=>!(Nat.beq e d && Nat.beq j i)
   | .all=>false)) && iG bef d i l

def fz (o:Oper):Bool :=
 match o.op with
 | .alloc _ | .box _ _ | .buildSlice _ _ _ | .makeSlice _ _ _ | .makeMap _ _=>true
 | .call c=>match c.callee with
   | .builtin .append=>true
   | _=>false
 | _=>false
def cg:List Oper→Nat
 | []=>0
 | o::r=>if fz o then cg r+1 else cg r
def lj:aa→Nat→aa
 | [],_=>[]
 | l::r,k=>{ l with bs:=l.bs++List.replicate k (0,.dead) } :: r
def iB:av→Bool
 | .dead=>true
 | _=>false
def nY:Nat×av→Bool
 | (0,.dead)=>true
 | _=>false
def ed (o:Oper):Bool :=
 match o.op with
 | .call c=>match c.callee with
   | .value _=>true
   | _=>false
 | _=>false
def qj (H:aa):Option (Nat×Nat×(Nat×av))→aa
 | none=>H
 | some (d,i,b)=>dE H d i b
structure sL where
 v:AV
 rd:Touch
 wr:Option (Nat×Nat×(Nat×av))
def dQ (P:Program) (call:aA) (ops:Array Oper) (bef:Nat) (fr:az) (H:aa) (nx:Nat) (recs:List Rec) (o:Oper):Option sL :=
 match gw ops fr o with
 | .lost=>none
 | .skip=>some ⟨.tup [],.none,none⟩
 | .run =>
   if ed o then match evalOp P call fr (bm (cJ H bef recs)) nx o with
    | some (v,_)=>some ⟨v,.all,none⟩
    | none=>none
   else match evalOp P call fr (cJ H bef recs) nx o with
    | some (v,.a8)=>some ⟨v,ct fr o,none⟩
    | some (v,.push b)=>if fz o && !iB b && nY (ar H 0 nx) && !aC H 0 then some ⟨v,ct fr o,some (0,nx,(0,b))⟩ else none
    | some (v,.set d i b)=>if !iB b.2 && (Nat.beq b.1 (ar H d i).1 || Nat.beq b.1 (Nat.succ (ar H d i).1)) && !iB (ar (cJ H bef recs) d i).2 && iG bef d i recs then some ⟨v,ct fr o,some (d,i,b)⟩ else none
    | _=>none

def eG (P:Program) (nt:Nat) (call:aA) (ops:Array Oper) (befs:Array Nat):Nat→List Oper→az→aa→Nat→List Rec→Option (az×aa)
 | _,[],fr,H,_,_=>some (fr,H)
 | j,o::r,fr,H,nx,recs=>match dQ P call ops (befs.getD j 0) fr H nx recs o with
   | some e=>eG P nt call ops befs (j+1) r (gF nt fr o.dst e.v) (qj H e.wr) (if fz o then nx+1 else nx) (⟨j,e.rd,e.wr.map fun x=>(x.1,x.2.1)⟩::recs)
   | none=>none

def ep (ops:Array Oper) (befs:Array Nat):Bool :=
 ops.toList.zipIdx.all fun (o,j)=>Nat.blt (befs.getD j 0) (2 ^ j) &&
  ops.toList.zipIdx.all fun (q,i) =>
   Nat.beq i j || (match q.dst with
   | none=>true
   | some d=>(o.dst != some d) && (!(o.looksAt ops).contains d || (befs.getD j 0).testBit i || (befs.getD i 0).testBit j))

inductive Ex where
 | normal | exit (id:Nat) | goto (l:Nat) | ret

def AR:Option Nat→Bool
 | some 0=>true
 | _=>false
def B5:AV→Bool
 | .int _ _=>true
 | .bool _=>true
 | .nils=>true
 | .slcT none _ _ _ _=>true
 | .ptrT none _ _=>true
 | _=>false
def KB:Row→Bool
 | .I _ _=>true
 | .F _ _=>true
 | .G l=>l.all B5
 | .M l=>fk l
def kM (n:Nat):AV→Bool
 | .ptr d i _ _=>Nat.beq d 0 && Nat.ble n i
 | .slc d i _ _ _ _ _=>Nat.beq d 0 && Nat.ble n i
 | .map d i=>Nat.beq d 0 && Nat.ble n i
 | .yld d i=>Nat.beq d 0 && Nat.ble n i
 | .ptrT s r _=>AR s && !KB r
 | .slcT s _ _ _ _=>AR s
 | .agg (.G _)=>true
 | .agg (.M l)=>!fk l
 | .fn _ _ _=>true
 | .tup (_::_)=>true
 | _=>false
def anyM (f:AV→Bool):List aw→Bool
 | []=>false
 | .one v::r=>f v || anyM f r
 | .arr _ _ _::r=>anyM f r
def qk (n:Nat):AV→Bool
 | .agg (.G l)=>l.any (kM n)
 | .agg (.M l)=>anyM (kM n) l
 | .fn _ a b=>a.any (kM n) || b.any (kM n)
 | .ptrT (some 0) (.M l) _=>anyM (kM n) l
 | v=>kM n v
def Oo (n:Nat):Row→Bool
 | .I .. | .F ..=>false
 | .G l=>l.any (qk n)
 | .M l=>anyM (qk n) l
def CA (n:Nat):av→Bool
 | .dead=>false
 | .row r=>Oo n r
 | .map es=>es.any fun e=>qk n e.1 || qk n e.2
 | .fmap _ _ _ _=>false
 | .loop _=>true
def cutAt (fr:az) (l:bL) (r:aa):Nat→Nat→aa
 | 0,_=>l::r
 | k+1,m=>if fr.any (fun x=>qk m x.2) || (l.bs.take m).any (fun x=>CA m x.2) then cutAt fr l r k (m+1) else { l with bs:=l.bs.take m } :: r
def iW (n:Nat) (fr:az) (H:aa):aa :=
 match H with
 | []=>[]
 | l::r=>if Nat.ble l.bs.length n then H else cutAt fr l r 4 n

def Gs:AV→Bool
 | .ptrT (some 0) (.M l) _=>anyM (kM 0) l
 | v=>kM 0 v
def tx (h:Nat):AV→Bool
 | .ptr d i _ _=>Nat.beq d 0 && Nat.beq i h
 | .slc d i _ _ _ _ _=>Nat.beq d 0 && Nat.beq i h
 | .map d i=>Nat.beq d 0 && Nat.beq i h
 | .yld d i=>Nat.beq d 0 && Nat.beq i h
 | v=>Gs v
def oM (f:AV→Bool) (v:AV):Bool :=
 match v with
 | .agg (.G l)=>l.any f
 | .agg (.M l)=>anyM f l
 | .fn _ a b=>a.any f || b.any f
 | v=>f v
def J9 (f:AV→Bool):Row→Bool
 | .I .. | .F ..=>false
 | .G l=>l.any (oM f)
 | .M l=>anyM (oM f) l
def yR (f:AV→Bool):av→Bool
 | .dead=>false
 | .row r=>J9 f r
 | .map _=>true
 | .fmap _ _ _ _=>false
 | .loop _=>true
def tl (a b:Nat):AV→AV
 | .ptr d i v off=>if Nat.beq d 0 && Nat.beq i a then .ptr 0 b v off else .ptr d i v off
 | .slc d i v off sz len cap=>if Nat.beq d 0 && Nat.beq i a then .slc 0 b v off sz len cap else .slc d i v off sz len cap
 | .map d i=>if Nat.beq d 0 && Nat.beq i a then .map 0 b else .map d i
 | .yld d i=>if Nat.beq d 0 && Nat.beq i a then .yld 0 b else .yld d i
 | v=>v
def mB (g:AV→AV) (v:AV):AV :=
 match v with
 | .agg (.G l)=>.agg (.G (l.map g))
 | .agg (.M l)=>.agg (.M (mapM' g l))
 | .fn f a b=>.fn f (a.map g) (b.map g)
 | v=>g v
def D8 (g:AV→AV):Row→Row
 | .I k l=>.I k l
 | .F f n=>.F f n
 | .G l=>.G (l.map (mB g))
 | .M l=>.M (mapM' (mB g) l)
def pf (g:AV→AV):av→av
 | .row r=>.row (D8 g r)
 | b=>b
def pg (g:AV→AV):az→az
 | []=>[]
 | (x,v)::r=>(x,mB g v)::pg g r
def iZ (g:AV→AV):List (Nat×av)→List (Nat×av)
 | []=>[]
 | (v,b)::r=>(v,pf g b)::iZ g r
def hole (fr:az) (bs:List (Nat×av)):Nat→Nat→Option Nat
 | 0,_=>none
 | k+1,m=>if Nat.blt (m+1) bs.length then
    if fr.any (fun x=>oM (tx m) x.2) || ((bs.take m).any (fun x=>yR (tx m) x.2) || (bs.drop (m+1)).any (fun x=>yR (tx m) x.2)) then hole fr bs k (m+1) else some m
   else none
def wa (a b:Nat) (l:bL):bL:={ l with bs:=bB (iZ (tl a b) (l.bs.take a)) b ((ao l.bs a).1,pf (tl a b) (ao l.bs a).2) }
def iM (n:Nat):Nat→az→aa→az×aa
 | 0,fr,H=>(fr,H)
 | k + 1,fr,H=>match H with
   | []=>(fr,[])
   | l::r=>match hole fr l.bs 4 n with
     | none=>(fr,l::r)
     | some h=>iM n k (pg (tl (l.bs.length-1) h) fr) (iW n (pg (tl (l.bs.length-1) h) fr) (wa (l.bs.length-1) h l::r))
def tidy (n:Nat) (fr:az) (H:aa):az×aa:=iM n 4 fr (iW n fr H)

def mA (i ver:Nat) (r:Row):AV→AV
 | .ptr d j v off=>if Nat.beq d 0 && (Nat.beq j i && Nat.beq v ver) then .ptrT none r off else .ptr d j v off
 | .slc d j v off sz len cap=>if Nat.beq d 0 && (Nat.beq j i && (Nat.beq v ver && Nat.ble (off+len*sz) r.len)) then .slcT none (r.sub off (len*sz)) sz len (cap == some len) else .slc d j v off sz len cap
 | v=>v
def ow (i:Nat):AV→Bool
 | .slc d j _ _ _ _ _=>Nat.beq d 0 && Nat.beq j i
 | _=>false
def vm:Row→Bool
 | .I _ _=>true
 | .M [.arr _ _ _]=>true
 | _=>false
def JB (f:AV→Bool):av→Bool
 | .row r=>J9 f r
 | _=>false
def ln (i:Nat) (fr:az) (l:bL):az×bL :=
 match ao l.bs i with
 | (ver,.row r)=>if vm r && (fr.any (fun x=>oM (ow i) x.2) || l.bs.any (fun x=>JB (ow i) x.2)) then (pg (mA i ver r) fr,{ l with bs:=bB (iZ (mA i ver r) l.bs) i (ver,.dead) }) else (fr,l)
 | _=>(fr,l)
def iz:Nat→az→bL→az×bL
 | 0,fr,l=>(fr,l)
 | n+1,fr,l=>ln n (iz n fr l).1 (iz n fr l).2
def Ci (fr:az) (H:aa):az×aa :=
 match H with
 | []=>(fr,[])
 | l::r=>if l.lock then (fr,l::r) else ((iz l.bs.length fr l).1,(iz l.bs.length fr l).2::r)
def dI:Nat→az→bL→az×bL
 | 0,fr,l=>(fr,l)
 | n+1,fr,l=>if (dI n fr l).1.any (fun x=>oM (ow n) x.2) then dI n fr l else ln n (dI n fr l).1 (dI n fr l).2
def tb (fr:az) (H:aa):az×aa :=
 match H with
 | []=>(fr,[])
 | l::r=>if l.lock then (fr,l::r) else ((dI l.bs.length fr l).1,(dI l.bs.length fr l).2::r)
def Lg (sz:Nat):AV→AV
 | .nils=>.slcT none (.M [.arr .i64 (fun _=>0) 0]) sz 0 false
 | v=>v
def Cq (sz:Nat):Nat→List AV→List AV
 | _,[]=>[]
 | 0,v::l=>Lg sz v::l
 | c+1,v::l=>v::Cq sz c l
def tm (c sz:Nat):av→av
 | .row (.G l)=>.row (.G (Cq sz c l))
 | B=>B
def lH (c sz:Nat):List (Nat×av)→List (Nat×av)
 | []=>[]
 | (v,B)::r=>(v,tm c sz B)::lH c sz r
def Ee (k:Nat) (H:aa):aa :=
 match H with
 | []=>[]
 | l::r=>if l.lock then l::r else { l with bs:=lH (k % 8) (k / 8) l.bs } :: r
def A3 (s:Nat):az→Option Nat
 | []=>none
 | (x,v)::r=>if Nat.beq x s then (match v with
   | .slc 0 i _ _ _ _ _=>some i
   | _=>none) else A3 s r
def vk (s:Nat) (fr:az) (H:aa):az×aa :=
 match H with
 | []=>(fr,[])
 | l::r=>if l.lock then (fr,l::r) else match A3 s fr with
   | some i=>((ln i fr l).1,(ln i fr l).2::r)
   | none=>(fr,l::r)
noncomputable def lq (m:Nat) (fr:az) (H:aa):az×aa:=if m4 m 4000 then ((Ci (bH fr m) H).1,if Nat.beq (Nat.shiftRight m 4003) 0 then (Ci (bH fr m) H).2 else Ee (Nat.shiftRight m 4003) (Ci (bH fr m) H).2) else if m4 m 4001 then vk (Nat.shiftRight m 4003) (bH fr m) H else if m4 m 4002 then (match bx (bH fr m) (Nat.shiftRight m 4003) with | .bool false=>tb (bH fr m) H | _=>(bH fr m,H)) else (bH fr m,H)

def iter (body:az→aa→Option (Ex×az×aa)) (n:Nat):Nat→az→aa→Option (Ex×az×aa)
 | 0,_,_=>none
 | fu+1,fr,H=>match body fr H with
   | some (.normal,fr,H)=>iter body n fu (tidy n fr H).1 (tidy n fr H).2
   | r=>r

structure Cx where
 P:Program
 call:aA
 fu:Nat
 fn:FuncId
 nt:Nat
 kt:Nat→Nat
 ro:Option (Nat×Nat)
def Cx.here (cx:Cx) (H:aa):Bool :=
 match cx.ro with
 | none=>true
 | some (d,i)=>match ar H d i with
   | (0,.loop _)=>true
   | _=>false

def fR (fr:az) (H:aa) (cx:Cx) (params:Array Tmp) (assign body:Code):aa :=
 iy H (.loop { state:=.ready,pending:=none,fn:=cx.fn,nt:=cx.nt,fr,params:=params.toList,assign,body })

def ri:Option Code→Option Ex
 | none=>some .normal
 | some (.exit id)=>some (.exit id)
 | some (.goto l)=>some (.goto l)
 | some .ret=>some .ret
 | _=>none

noncomputable def exec (cx:Cx):Code→az→aa→Option (Ex×az×aa)
 | .skip,fr,H=>some (.normal,fr,H)
 | .label _,fr,H=>some (.normal,fr,H)
 | .region id ops draw,fr,H =>
   match (if draw then (if ep ops (Region.before ops) then eG cx.P cx.nt cx.call ops (Region.before ops) 0 ops.toList fr (lj H (cg ops.toList)) (aN H) [] else none) else dV cx.P cx.nt cx.call ops ops.toList fr H) with
   | some (fr,H)=>some (.normal,lq (cx.kt id) fr H)
   | none=>none
 | .seq a b,fr,H=>match exec cx a fr H with
   | some (.normal,fr,H)=>exec cx b fr H
   | r=>r
 | .cond c a b,fr,H=>match bE fr c with
   | .bool true=>exec cx a fr H
   | .bool false=>exec cx b fr H
   | _=>none
 | .block id b,fr,H=>match exec cx b fr H with
   | some (.exit id',fr,H)=>if Nat.beq id' id then some (.normal,fr,H) else some (.exit id',fr,H)
   | r=>r
 | .loop b,fr,H=>iter (exec cx b) (aN H) cx.fu fr H
 | .rangeFunc f params assign body,fr,H =>
   match bE fr f with
   | .fn (.func g) a b =>
     if !cx.here H || aC H 0 then none else
     match cx.call (.fn g) (a++(.yld 0 (aN H)::b)) (fR fr H cx params assign body) with
     | some (_,H1)=>match ar H1 0 (aN H) with
       | (0,.loop l) =>
         if l.state == .busy then none else
         match ri l.pending with
         | some e=>some (e,fr,dH H1 0 (aN H))
         | none=>none
       | _=>none
     | none=>none
   | _=>none
 | .exit id,fr,H=>some (.exit id,fr,H)
 | .scope b,fr,H=>match exec cx b fr H with
   | some (.goto _,_,_)=>none
   | r=>r
 | .goto l,fr,H=>some (.goto l,fr,H)
 | .ret,fr,H=>some (.ret,fr,H)
 | .refuse _,_,_=>none

def cX   (bs:List (Nat×av)):Nat→AV→AV
 | 0,_=>.undef
 | n + 1,v=>match v with
   | .ptr d i ver off=>match d with
     | d+1=>.ptr d i ver off
     | 0 => match ao bs i with
       | (w,.row r)=>if Nat.beq w ver then (match r with
         | .I k l=>.ptrT none (.I k l) off
         | .F f m=>.ptrT none (.F f m) off
         | .M l=>if fk l then .ptrT none (.M l) off else .ptrT (some 0) (.M (mapM' (cX bs n) l)) off
         | .G l=>.ptrT (some 0) (.G (l.map (cX bs n))) off) else .undef
       | _=>.undef
   | .slc d i ver off sz len cap=>match d with
     | d+1=>.slc d i ver off sz len cap
     | 0 => match ao bs i with
       | (w,.row r)=>if Nat.beq w ver∧off+len*sz≤r.len then (match r.sub off (len*sz) with
         | .I k l=>.slcT none (.I k l) sz len (cap == some len)
         | .F f m=>.slcT none (.F f m) sz len (cap == some len)
         | .M l=>if fk l then .slcT none (.M l) sz len (cap == some len) else .slcT (some 0) (.M (mapM' (cX bs n) l)) sz len (cap == some len)
         | .G l=>.slcT (some 0) (.G (l.map (cX bs n))) sz len (cap == some len)) else .undef
       | _=>.undef
   | .ptrT s r off=>match s with
     | none=>.ptrT none r off
     | some (s+1)=>.ptrT (some s) r off
     | some 0=>match r with
       | .G l=>.ptrT (some 0) (.G (l.map (cX bs n))) off
       | .M l=>if fk l then .ptrT none (.M l) off else .ptrT (some 0) (.M (mapM' (cX bs n) l)) off
       | r=>.ptrT none r off
   | .slcT s r sz len full=>match s with
     | none=>.slcT none r sz len full
     | some (s+1)=>.slcT (some s) r sz len full
     | some 0=>match r with
       | .G l=>.slcT (some 0) (.G (l.map (cX bs n))) sz len full
       | .M l=>if fk l then .slcT none (.M l) sz len full else .slcT (some 0) (.M (mapM' (cX bs n) l)) sz len full
       | r=>.slcT none r sz len full
   | .map d i=>match d with
     | d+1=>.map d i
     | 0=>.undef
   | .yld d i=>match d with
     | d+1=>.yld d i
     | 0=>.undef
   | .fn f a b=>.fn f (a.map (cX bs n)) (b.map (cX bs n))
   | .agg r=>match r with
     | .G l=>.agg (.G (l.map (cX bs n)))
     | .M l=>.agg (.M (mapM' (cX bs n) l))
     | r=>.agg r
   | .tup l=>.tup (l.map (cX bs n))
   | v=>v

def eJ:Nat→List AV→az
 | _,[]=>[]
 | x,v::l=>(x,kO 1 v)::eJ (x+1) l

def fT (P:Program) (fr:az) (H:aa):List ResultVar→Option (List AV)
 | []=>some []
 | .tmp t::r=>(fT P fr H r).map (bx fr t::·)
 | .cell a t::r=>match lz P H t (bx fr a) with
   | some v=>(fT P fr H r).map (v::·)
   | none=>none
def one:List AV→AV
 | [v]=>v
 | l=>.tup l

def jK (nt:Nat) (fr:az):List Tmp→List AV→Option az
 | [],[]=>some fr
 | t::ts,v::vs=>if Nat.blt t nt then jK nt (sX fr t v) ts vs else none
 | _,_=>none

def b7:Ex→Option Code
 | .normal=>none
 | .exit id=>some (.exit id)
 | .goto l=>some (.goto l)
 | .ret=>some .ret

def kJ (k:Nat):az→az
 | []=>[]
 | (x,v)::r=>(x,kO k v)::kJ k r

noncomputable def cU (P:Program) (ora:aA→FuncId→List AV→aa→Option (AV×aa)) (KT:FuncId→Nat→Nat) (fu:Nat):Nat→aA
 | _,.mode,_,_=>(ora (fun _ _ _=>none) 1000000 [] []).map fun _=>(.undef,[])
 | 0,_,_,_=>none
 | n + 1,.fn f,args,H=>match ora (cU P ora KT fu n) f args H with
   | some r=>some r
   | none => match P.funcs[f]? with
     | none=>none
     | some fn=>match fn.body with
       | none=>none
       | some c=>if Nat.ble args.length fn.ntmps then
         match exec ⟨P,cU P ora KT fu n,fu,f,fn.ntmps,KT f,none⟩ c (eJ 0 args) (⟨false,[]⟩::H) with
         | some (e,fr,l::H') =>
           (match e with
           | .normal | .ret=>match fT P fr (l::H') fn.results.toList with
             | some vs=>some (cX l.bs 5 (one vs),H')
             | none=>none
           | _=>none)
         | _=>none
         else none
 | n + 1,.round  d i,args,H=>match ar H d i with
   | (0, .loop l) =>
     if aC H d then none else
     match l.state with
     | .ready => match jK l.nt (kJ (d+1) l.fr) l.params (args.map (kO 1)) with
       | some fr => match exec ⟨P,cU P ora KT fu n,fu,l.fn,l.nt,KT l.fn,some (d+1,i)⟩ l.assign fr (⟨false,[]⟩::H) with
         | some (.normal,fr,H1)=>match ar H1 (d+1) i with
           | (0, .loop l1)=>match l1.state with
             | .ready =>
               match exec ⟨P,cU P ora KT fu n,fu,l.fn,l.nt,KT l.fn,some (d+1,i)⟩ l.body fr (dE H1 (d+1) i (0,.loop { l1 with state:=.busy })) with
               | some (e,_,_::H2)=>match ar H2 d i with
                 | (0,.loop l2)=>some (.bool (b7 e).isNone,dE H2 d i (0,.loop { l2 with state:=if (b7 e).isNone then .ready else .done,pending:=b7 e }))
                 | _=>none
               | _=>none
             | _=>none
           | _=>none
         | _=>none
       | none=>none
     | _=>none
   | _=>none

end Go.Eng
