/- The engine, part A: abstract values, the abstract heap, the abstract interpreter. No statement is proved here. -/
import Derived.RangeFuncLeaves
import Derived.OrdersIn
import Derived.RangeFuncRecord
namespace Go.Eng
theorem nP:(∀ {α:Type} (a b:α),(some a=some b)=(a=b))∧(∀ {α β:Type} (a c:α) (b d:β),((a,b)=(c,d))=(a=c∧b=d)):=⟨fun _ _=>Option.some.injEq _ _,fun _ _ _ _=>Prod.mk.injEq _ _ _ _⟩

mutual
inductive AV where
 | undef
 | bool (b:Bool)
 | int (k:IntKind) (n:Int)
 | str (s:ByteArray)
 | nilp | nils | nilm | nilf
 | ptr (d i v off:Nat)
 | ptrT (s:Option Nat) (r:Row) (off:Nat)
 | slc (d i v off sz len:Nat) (cap:Option Nat)
 | slcT (s:Option Nat) (r:Row) (sz len:Nat) (full:Bool)
 | map (d i:Nat)
 | yld (d i:Nat)
 | fn (f:Fn) (first cap:List AV)
 | agg (r:Row)
 | tup (l:List AV)
inductive Row where
 | I (k:IntKind) (l:List Int)
 | G (l:List AV)
 | F (f:Nat→AV) (n:Nat)
 | M (l:List aW)
inductive aW where
 | one (v:AV)
 | arr (k:IntKind) (z:Nat→Int) (n:Nat)
end

instance:Inhabited AV:=⟨.undef⟩
instance:Inhabited Row:=⟨.G []⟩

def aG:aW→Nat
 | .one _=>1
 | .arr _ _ n=>n
def ay:List aW→Nat
 | []=>0
 | s::r=>aG s+ay r
def getM:List aW→Nat→AV
 | [],_=>.undef
 | .one v::_,0=>v
 | .one _::r,j+1=>getM r j
 | .arr k z n::r,j=>if j<n then .int k (z j) else getM r (j-n)
def mapM' (f:AV→AV):List aW→List aW
 | []=>[]
 | .one v::r=>.one (f v)::mapM' f r
 | .arr k z n::r=>.arr k z n::mapM' f r
def fw:List aW→Bool
 | []=>true
 | .one _::_=>false
 | .arr _ _ _::r=>fw r
def Row.len:Row→Nat
 | .I _ l=>l.length
 | .G l=>l.length
 | .F _ n=>n
 | .M l=>ay l
def Row.get:Row→Nat→AV
 | .I k l,j=>.int k (l.getD j 0)
 | .G l,j=>l.getD j .undef
 | .F f _,j=>f j
 | .M l,j=>getM l j

def dg (g:Nat→AV):Nat→Nat→List AV
 | _,0=>[]
 | o,n+1=>g o::dg g (o+1) n
def Row.toList:Row→List AV
 | .I k l=>l.map (.int k)
 | .G l=>l
 | .F f n=>dg f 0 n
 | .M l=>dg (getM l) 0 (ay l)
def Row.ints:Row→Option (IntKind×(Nat→Int))
 | .I k l=>some (k,fun j=>l.getD j 0)
 | .M [.arr k z _]=>some (k,z)
 | _=>none
def xy:Row→Bool
 | .M _=>true
 | _=>false
def pU:List AV→List aW→List aW
 | [],r=>r
 | v::l,r=>.one v::pU l r
def jv:List aW→Nat→AV→List aW
 | [],_,_=>[]
 | .one _::r,0,v=>.one v::r
 | .one u::r,j+1,v=>.one u::jv r j v
 | .arr k z n::r,j,v=>if j<n then (match v with
    | .int k' x=>if k'=k then .arr k (fun i=>if i=j then x else z i) n::r else pU (dg (fun i=>if i=j then v else .int k (z i)) 0 n) r
    | _=>pU (dg (fun i=>if i=j then v else .int k (z i)) 0 n) r)
   else .arr k z n::jv r (j-n) v
def wG:List Int→Bool
 | []=>true
 | x::l=>x == 0 && wG l
def Lb (l:List Int):Nat→Int:=if wG l then fun _=>0 else fun j=>l.getD j 0
def cV (k:IntKind):List AV→List Int×List AV
 | .int k' n::r=>if k'=k then (match cV k r with | (a,b)=>(n::a,b)) else ([],.int k' n::r)
 | l=>([],l)
def gS:Nat→List AV→List aW
 | 0,l=>pU l []
 | _,[]=>[]
 | f+1,.int k n::r=>match cV k r with
   | (a,b)=>if Nat.ble 7 a.length then .arr k (Lb (n::a)) (a.length+1)::gS f b else .one (.int k n)::gS f r
 | f+1,v::r=>.one v::gS f r

def sm (k:IntKind):List AV→Option (List Int)
 | []=>some []
 | .int k' n::r=>if k'=k then (sm k r).map (n::·) else none
 | _=>none
def Row.ofList:List AV→Row
 | .int k n::r=>match sm k r with
   | some l=>.I k (n::l)
   | none=>.G (.int k n::r)
 | l=>.G l

def kM:List aW→Nat→Nat→Option (IntKind×(Nat→Int))
 | [],_,_=>none
 | .one _::r,o+1,n=>kM r o n
 | .one _::_,0,_=>none
 | .arr k z m::r,o,n=>if o+n≤m then some (k,fun j=>z (o+j)) else if m≤o then kM r (o-m) n else none
def Row.sub (r:Row) (o n:Nat):Row :=
 match r with
 | .I k l=>.I k ((l.drop o).take n)
 | .G l=>.G ((l.drop o).take n)
 | .F f _=>.F (fun j=>f (o+j)) n
 | .M [.arr k z _]=>.M [.arr k (fun j=>z (o+j)) n]
 | .M l=>if Nat.beq o 0 && Nat.beq (ay l) n then .M l else match kM l o n with
   | some (k,z)=>.M [.arr k z n]
   | none=>.G (dg (getM l) o n)

def gG:AV→Bool
 | .undef | .bool _ | .int _ _ | .str _ | .nilp | .nils | .nilm | .nilf=>true
 | .ptrT s _ _=>s.isNone
 | .slcT s _ _ _ _=>s.isNone
 | .agg (.I ..) | .agg (.F ..)=>true
 | .agg (.M l)=>fw l
 | _=>false

def Row.cut (r:Row) (o n:Nat):Row :=
 match r with
 | .G l=>Row.ofList ((l.drop o).take n)
 | .M l=>if Nat.ble n 8 then Row.ofList (dg (getM l) o n) else if Nat.beq o 0 && Nat.beq (ay l) n then .M l else (Row.M l).sub o n
 | r=>r.sub o n

def Row.set (r:Row) (j:Nat) (v:AV):Row :=
 match r,v with
 | .I k l,.int k' n=>if k'=k then .I k (l.set j n) else .G ((l.map (.int k)).set j v)
 | .I k l,v=>.G ((l.map (.int k)).set j v)
 | .G l,v=>.G (l.set j v)
 | .F f n,v=>.F (fun i=>if i=j then (if gG v then v else .undef) else f i) n
 | .M l,v=>.M (jv l j v)
def Row.cr (r:Row) (j:Nat):List AV→Row
 | []=>r
 | v::l=>(r.set j v).cr (j+1) l
def Row.tu (r s:Row):Option Row :=
 match r.ints,s.ints with
 | some (k,z),some (k',z')=>if k'=k then some (.M [.arr k (fun i=>if i<r.len then z i else z' (i-r.len)) (r.len+s.len)]) else none
 | _,_=>none
def mN:AV→AV
 | .slcT none (.I k l) sz m _=>.slcT none (.M [.arr k (fun j=>l.getD j 0) l.length]) sz m false
 | .slcT none (.M [.arr k z n]) sz m _=>.slcT none (.M [.arr k z n]) sz m false
 | v=>v
def qx (n i:Nat):Nat:=if Nat.beq n 1 then 0 else i
def Row.app (r s:Row):Row :=
 match r,s with
 | .M l,s=>(match (Row.M l).tu s with | some q=>q | none=>.G ((Row.M l).toList++s.toList))
 | .I k l,.M m=>(match (Row.I k l).tu (.M m) with | some q=>q | none=>.G ((Row.I k l).toList++(Row.M m).toList))
 | .I k l,.I k' l'=>if k'=k then .I k (l++l') else .G (l.map (.int k)++l'.map (.int k'))
 | .F f n,s=>.F (fun i=>if Nat.blt i n then f i else if gG (s.get (qx s.len (i-n))) then mN (s.get (qx s.len (i-n))) else .undef) (n+s.len)
 | r,s=>.G (r.toList++s.toList)

def nF (k:Nat):AV→AV
 | .ptr d i v off=>.ptr (d+k) i v off
 | .ptrT s r off=>.ptrT (s.map (· + k)) r off
 | .slc d i v off sz len cap=>.slc (d+k) i v off sz len cap
 | .slcT s r sz len full=>.slcT (s.map (· + k)) r sz len full
 | .map d i=>.map (d+k) i
 | .yld d i=>.yld (d+k) i
 | .agg (.I a l)=>.agg (.I a l)
 | .fn _ _ _ | .agg _ | .tup (_::_)=>.undef
 | v=>v
def K3 (k:Nat) (v:AV):AV :=
 match v with
 | .fn f a b=>.fn f (a.map (nF k)) (b.map (nF k))
 | .agg (.G l)=>.agg (.G (l.map (nF k)))
 | .agg (.M l)=>.agg (.M (mapM' (nF k) l))
 | .agg r=>.agg r
 | v=>nF k v
def fW (k:Nat) (v:AV):AV :=
 match k with
 | 0=>v
 | k+1=>K3 (k+1) v
def z7 (k:Nat):Row→Row
 | .I a l=>.I a l
 | .G l=>.G (l.map (nF k))
 | .F f n=>.F f n
 | .M l=>.M (mapM' (nF k) l)
def z6 (k:Nat) (r:Row):Row :=
 match k with
 | 0=>r
 | k+1=>z7 (k+1) r
def j8:Nat→Nat→AV→AV
 | 0,_,_=>.undef
 | n + 1,k,v=>match v with
   | .ptr d i v off=>if Nat.blt d k then .undef else .ptr (d-k) i v off
   | .ptrT none r off=>.ptrT none r off
   | .ptrT (some s) r off=>if Nat.blt s k then (match r with
     | .G l=>.ptrT (some 0) (.G (l.map (j8 n (k-s)))) off
     | .M l=>if fw l then .ptrT none (.M l) off else .ptrT (some 0) (.M (mapM' (j8 n (k-s)) l)) off
     | r=>.ptrT none r off) else .ptrT (some (s-k)) r off
   | .slc d i v off sz len cap=>if Nat.blt d k then .undef else .slc (d-k) i v off sz len cap
   | .slcT none r sz len full=>.slcT none r sz len full
   | .slcT (some s) r sz len full=>if Nat.blt s k then (match r with
     | .G l=>.slcT (some 0) (.G (l.map (j8 n (k-s)))) sz len full
     | .M l=>if fw l then .slcT none (.M l) sz len full else .slcT (some 0) (.M (mapM' (j8 n (k-s)) l)) sz len full
     | r=>.slcT none r sz len full) else .slcT (some (s-k)) r sz len full
   | .map d i=>if Nat.blt d k then .undef else .map (d-k) i
   | .yld d i=>if Nat.blt d k then .undef else .yld (d-k) i
   | .agg (.I a l)=>.agg (.I a l)
   | .fn _ _ _ | .agg _ | .tup (_::_)=>.undef
   | v=>v
def Jm (k:Nat) (v:AV):AV :=
 match v with
 | .fn f a b=>.fn f (a.map (j8 4 k)) (b.map (j8 4 k))
 | .agg (.G l)=>.agg (.G (l.map (j8 4 k)))
 | .agg (.M l)=>.agg (.M (mapM' (j8 4 k) l))
 | .agg r=>.agg r
 | v=>j8 4 k v
def LB (k:Nat) (v:AV):AV :=
 match k with
 | 0=>v
 | k+1=>Jm (k+1) v
def vr (k:Nat):Row→Row
 | .I a l=>.I a l
 | .G l=>.G (l.map (j8 4 k))
 | .F f n=>.F f n
 | .M l=>.M (mapM' (j8 4 k) l)

def iY (k:Nat) (r:Row):Row :=
 match k with
 | 0=>r
 | k+1=>vr (k+1) r

abbrev au:=List (Nat×AV)
def bh:au→Nat→AV
 | [],_=>.undef
 | (x,v)::r,y=>if Nat.beq x y then v else bh r y
def tB:au→Nat→AV→au
 | [],y,u=>[(y,u)]
 | (x,v)::r,y,u=>if Nat.ble y x then (if Nat.beq x y then (y,u)::r else (y,u)::(x,v)::r) else (x,v)::tB r y u
def nj (m x:Nat):Bool:=Nat.beq (Nat.land (Nat.shiftRight m x) 1) 1
noncomputable def bF (fr:au) (m:Nat):au:=List.rec (motive:=fun _=>au) [] (fun p _ ih=>Prod.rec (motive:=fun _=>au) (fun x _=>Bool.rec (motive:=fun _=>au) (p::ih) ih (Nat.beq (Nat.land (Nat.shiftRight m x) 1) 1)) p) fr

structure lh where
 state:LoopState
 pending:Option Code
 fn:FuncId
 nt:Nat
 fr:au
 params:List Tmp
 assign:Code
 body:Code

inductive KK where
 | num (k:IntKind)
 | str (n:Nat)
inductive al where
 | dead
 | row (r:Row)
 | map (es:List (AV×AV))
 | fmap (q:KK) (h:List Int→Bool) (g:List Int→Int) (c:Nat)
 | loop (l:lh)

structure bo where
 lock:Bool
 bs:List (Nat×al)
abbrev aa:=List bo

def ak:List (Nat×al)→Nat→Nat×al
 | [],_=>(0,.dead)
 | b::_,0=>b
 | _::r,i+1=>ak r i
def bA:List (Nat×al)→Nat→Nat×al→List (Nat×al)
 | [],_,_=>[]
 | _::r,0,x=>x::r
 | b::r,i+1,x=>b::bA r i x
def ao:aa→Nat→Nat→Nat×al
 | [],_,_=>(0,.dead)
 | l::_,0,i=>ak l.bs i
 | _::r,d+1,i=>ao r d i
def aw:aa→Nat→Bool
 | [],_=>true
 | l::_,0=>l.lock
 | _::r,d+1=>aw r d
def df:aa→Nat→Nat→Nat×al→aa
 | [],_,_,_=>[]
 | l::r,0,i,x=>{ l with bs:=bA l.bs i x } :: r
 | l::r,d+1,i,x=>l::df r d i x
def b9 (H:aa) (d i:Nat):aa:=df H d i ((ao H d i).1,.dead)
def iy:aa→al→aa
 | [],b=>[⟨false,[(0,b)]⟩]
 | l::r,b=>{ l with bs:=l.bs++[(0,b)] } :: r
def bn:aa→Nat→al→aa
 | [],_,_=>[]
 | l::r,0,b=>{ l with bs:=l.bs++[(0,b)] } :: r
 | l::r,d+1,b=>l::bn r d b
def ah:aa→Nat→Nat
 | [],_=>0
 | l::_,0=>l.bs.length
 | _::r,d+1=>ah r d
def an:aa→Nat
 | []=>0
 | l::_=>l.bs.length
def av:aa→aa
 | []=>[]
 | l::r=>{ l with lock:=true } :: av r

def cX (H:aa) (d i v:Nat):Option Row :=
 match ao H d i with
 | (ver,.row r)=>if Nat.beq ver v then some r else none
 | _=>none

def rT:Value→AV
 | .bool b=>.bool b
 | .int k n=>.int k n
 | .string s=>.str s
 | .pointer none=>.nilp
 | .slice none 0 0=>.nils
 | .map none=>.nilm
 | .nilFunc=>.nilf
 | _=>.undef
def ki:Value→AV
 | .bool b=>.bool b
 | .int k n=>.int k n
 | .string s=>.str s
 | .pointer none=>.nilp
 | .slice none 0 0=>.nils
 | .map none=>.nilm
 | .nilFunc=>.nilf
 | .func (.func f) ca cb=>if ca.isEmpty && cb.isEmpty then .fn (.func f) [] [] else .undef
 | .agg cs=>if cs.toList.all Value.oneCell' then .agg (Row.ofList (cs.toList.map rT)) else .undef
 | .tuple cs=>if cs.isEmpty then .tup [] else .undef
 | _=>.undef

def bB (fr:au):Operand→AV
 | .tmp t=>bh fr t
 | .const v=>ki v
 | .global _=>.undef
 | .func f=>.fn (.func f) [] []

def AV.row:AV→Option Row
 | .agg r=>some r
 | .int k n=>some (.I k [n])
 | .undef | .tup _=>none
 | v=>some (.G [v])

def eS (P:Program) (t:TypeId):Option Bool :=
 match P.underlying t with
 | some (.struct _) | some (.array _ _)=>some true
 | some _=>some false
 | none=>none
def bf (P:Program) (t:TypeId):Option Nat:=(P.info? t).map (·.size)
def ct (P:Program) (t:TypeId):Option AV:=((P.info? t).bind (·.zero)).map ki

inductive Delta where
 | aX
 | push (b:al)
 | set (d i:Nat) (b:Nat×al)
 | heap (H:aa)
def Delta.on (δ:Delta) (H:aa):aa :=
 match δ with
 | .aX=>H
 | .push b=>iy H b
 | .set d i b=>df H d i b
 | .heap H=>H

inductive K4 where
 | fn (f:FuncId)
 | round (d i:Nat)
 | mode
abbrev aJ:=K4→List AV→aa→Option (AV×aa)

def gP (op:BinOp) (k:IntKind) (x y:Int):Option AV :=
 match op with
 | .add=>some (.int k (k.wrap (x+y)))
 | .sub=>some (.int k (k.wrap (x-y)))
 | .mul=>some (.int k (k.wrap (x*y)))
 | .quo=>if y=0 then none else some (.int k (k.wrap (x.tdiv y)))
 | .rem=>if y=0 then none else some (.int k (x.tmod y))
 | .and=>some (.int k (k.wrap (BitVec.ofInt k.bits x &&& BitVec.ofInt k.bits y).toNat))
 | .or=>some (.int k (k.wrap (BitVec.ofInt k.bits x ||| BitVec.ofInt k.bits y).toNat))
 | .xor=>some (.int k (k.wrap (BitVec.ofInt k.bits x ^^^ BitVec.ofInt k.bits y).toNat))
 | .andNot=>some (.int k (k.wrap (BitVec.ofInt k.bits x &&& ~~~(BitVec.ofInt k.bits y)).toNat))
 | .eql=>some (.bool (x == y))
 | .neq=>some (.bool (x != y))
 | .lss=>some (.bool (x<y))
 | .leq=>some (.bool (x≤y))
 | .gtr=>some (.bool (x > y))
 | .geq=>some (.bool (x≥y))
 | _=>none

def fF (P:Program) (g:TypeId→Option Nat) (off:Nat):List Field→Option Nat
 | []=>some off
 | f::fs=>if f.name != "_" && Nat.beq f.offset off then (match g f.type with
   | some s=>fF P g (off+s) fs
   | none=>none) else none
def bW (P:Program):Nat→TypeId→Option Nat
 | 0,_=>none
 | n + 1,t=>match P.underlying t with
   | some (.int _)=>if bf P t=some 1 then some 1 else none
   | some (.array len e)=>match bW P n e with
     | some s=>if bf P t=some (len*s) then some (len*s) else none
     | none=>none
   | some (.struct fs)=>if P.stoodInHeld t then none else match fF P (bW P n) 0 fs.toList with
     | some s=>if bf P t=some s then some s else none
     | none=>none
   | _=>none

def eQ:List Int→List Int→Bool
 | [],[]=>true
 | x::a,y::b=>(x == y) && eQ a b
 | _,_=>false

def allEq (z z':Nat→Int):Nat→Bool
 | 0=>true
 | n+1=>allEq z z' n && (z n == z' n)
def I8 (P:Program) (t:TypeId) (r s:Row):Option Bool :=
 match r.ints,s.ints with
 | some (k,z),some (k',z')=>if k=k'∧bW P 20 t=some r.len∧eS P t=some true∧r.len=s.len then some (allEq z z' r.len) else none
 | _,_=>none
def yQ (P:Program) (t:TypeId) (x y:AV):Option Bool :=
 match x,y with
 | .bool a,.bool b=>(match P.underlying t with | some .bool=>some (a == b) | _=>none)
 | .nils,.nils | .nils,.slcT .. | .nils,.slc .. | .slcT ..,.nils | .slc ..,.nils =>
   (match P.underlying t with
   | some (.slice _)=>(match x,y with
     | .nils,.nils=>some true
     | .nils,.slcT _ _ _ n _=>if 0<n then some false else none
     | .slcT _ _ _ n _,.nils=>if 0<n then some false else none
     | _,_=>some false)
   | _=>none)
 | .nilp,.nilp | .nilp,.ptr .. | .nilp,.ptrT .. | .ptr ..,.nilp | .ptrT ..,.nilp =>
   (match P.underlying t with
   | some (.pointer _)=>some (match x,y with | .nilp,.nilp=>true | _,_=>false)
   | _=>none)
 | .agg (.I k a),.agg (.I k' b)=>if k=k'∧bW P 20 t=some a.length∧eS P t=some true∧a.length=b.length then some (eQ a b) else none
 | .agg (.M l),.agg s=>I8 P t (.M l) s
 | .agg (.I k a),.agg (.M l)=>I8 P t (.I k a) (.M l)
 | _,_=>none

def jD (P:Program) (op:BinOp) (t:TypeId) (x y:AV):Option AV :=
 match op,x,y with
 | .shl,.int k a,.int _ b=>if b<0 then none else some (.int k (k.wrap (a*2 ^ (min b.toNat k.bits))))
 | .shr,.int k a,.int _ b=>if b<0 then none else some (.int k (a.fdiv (2 ^ (min b.toNat k.bits))))
 | op,.int k a,.int k' b=>if k=k' then gP op k a b else none
 | .eql,x,y=>(yQ P t x y).map .bool
 | .neq,x,y=>(yQ P t x y).map fun b=>.bool (!b)
 | _,_,_=>none

def K0 (op:UnOp) (x:AV):Option AV :=
 match op,x with
 | .not,.bool b=>some (.bool !b)
 | .neg,.int k n=>some (.int k (k.wrap (0-n)))
 | _,_=>none

def ny {α:Type} (l:List α):Nat→List α
 | 0=>[]
 | n+1=>l++ny l n
def dI (z:Row) (n:Nat):Row :=
 match z with
 | .I k l=>.I k (ny l n)
 | z=>.G (ny z.toList n)
def Dh (l:List AV) (n:Nat):Row :=
 match l with
 | [v]=>if gG v then .F (fun _=>v) n else .G (ny l n)
 | l=>.G (ny l n)
def dw (z:Row) (n:Nat):Row :=
 match z with
 | .I k l=>if wG l then .M [.arr k (fun _=>0) (n*l.length)] else .I k (ny l n)
 | z=>Dh z.toList n
def iT (r:Row):Row :=
 match r with
 | .I k l=>if Nat.ble 8 l.length then .M [.arr k (Lb l) l.length] else .I k l
 | .G l=>if (gS l.length l).length == l.length then .G l else .M (gS l.length l)
 | r=>r
def tz (z:Nat→Int) (off:Nat) (z':Nat→Int) (n:Nat):Nat→Int:=fun i=>if off≤i∧i<off+n then z' (i-off) else z i
def yh:List aW→Nat→Nat→List aW→Option (List aW)
 | [],_,_,_=>none
 | .one v::r,o+1,n,q=>(yh r o n q).map (.one v::·)
 | .one _::_,0,_,_=>none
 | .arr k z m::r,o,n,q=>if Nat.beq o 0 && Nat.beq m n then some (q++r) else if Nat.ble m o then (yh r (o-m) n q).map (.arr k z m::·) else none
def Hd (q:Row):Option (List aW) :=
 match iT q with
 | .M l=>some l
 | _=>none
def vX (l:List aW) (off:Nat) (q:Row):Row :=
 if Nat.ble 9 q.len then (match Hd q with
  | some qs=>if Nat.beq off 0 && Nat.beq (ay l) q.len then .M qs else (match yh l off q.len qs with
    | some l'=>.M l'
    | none=>(Row.M l).cr off q.toList)
  | none=>(Row.M l).cr off q.toList)
 else (Row.M l).cr off q.toList
def jt (r:Row) (off:Nat) (q:Row):Row :=
 match r with
 | .M l=>(match l with
   | [.arr k z m]=>(match q with
     | .M [.arr k' z' n]=>if k'=k then .M [.arr k (tz z off z' n) m] else vX l off q
     | _=>vX l off q)
   | _=>vX l off q)
 | r=>r.cr off q.toList
def qw:AV→Bool
 | .slcT none (.M [.arr _ _ _]) _ _ _=>true
 | .slcT none (.I _ _) _ _ _=>true
 | _=>false
def qP (sy:Bool) (r:Row):Row :=
 match r with
 | .I k l=>if sy then .M [.arr k (fun j=>l.getD j 0) l.length] else .I k l
 | .G [v]=>if sy && qw v then .F (fun _=>mN v) 1 else .G [v]
 | r=>r
def r7 (place:Nat→Option (Nat×Nat)) (r:Row):List (Nat×AV)→Option Row
 | []=>some r
 | (i,v)::rest=>match place i with
   | none=>none
   | some (off,size)=>match v.row with
     | some q=>if q.len=size∧off+q.len≤r.len then r7 place (r.cr off q.toList) rest else none
     | none=>none

def gU (P:Program) (t:TypeId) (r:Row) (off:Nat):Option AV :=
 match eS P t,bf P t with
 | some true,some n=>if off+n≤r.len then some (.agg (r.cut off n)) else none
 | some false,_=>if off<r.len then some (r.get off) else none
 | _,_=>none

def NT (s:Option Nat) (v:AV):AV :=
 match s with
 | none=>v
 | some k=>fW k v

def lS (P:Program) (H:aa) (t:TypeId) (a:AV):Option AV :=
 match a with
 | .ptr d i v off=>match cX H d i v with
   | some r=>(gU P t r off).map (fW d)
   | none=>none
 | .ptrT s r off=>(gU P t r off).map (NT s)
 | _=>none

def fQ (P:Program) (H:aa) (t:TypeId) (a x:AV):Option Delta :=
 match a with
 | .ptr d i v off =>
   if aw H d then none else
   match cX H d i v,bf P t,x.row with
   | some r,some n,some q =>
     if q.len=n∧off+n≤r.len then
      match d,x with
      | d+1,.slc 0 j w o sz len cap=>if aw H 0 then none else match cX H 0 j w with
        | some q=>some (.heap (bn (df (b9 H 0 j) (d+1) i (v,.row (r.set off (.slc 0 (ah H (d+1)) 0 o sz len cap)))) (d+1) (.row (iY (d+1) q))))
        | none=>none
      | _,_=>some (.set d i (v,.row (jt r off (iY d q))))
     else none
   | _,_,_=>none
 | _=>none

def kI (P:Program):List Field→Option (List (Nat×Nat))
 | []=>some []
 | f::fs=>match bf P f.type,kI P fs with
   | some n,some l=>some ((f.offset,n)::l)
   | _,_=>none

def vl (P:Program) (sy:Bool) (t:TypeId) (parts:List (Nat×AV)):Option AV :=
 match ct P t,P.underlying t with
 | some (.agg z),some (.struct fs)=>match kI P fs.toList with
   | some l=>(r7 (fun i=>l[i]?) (if sy then iT z else z) parts).map .agg
   | none=>none
 | some (.agg z),some (.array _ e)=>match bf P e with
   | some n=>(r7 (fun i=>some (i*n,n)) (if sy then iT z else z) parts).map .agg
   | none=>none
 | _,_=>none

def ka (a:AV) (n:Nat):Option AV :=
 match a with
 | .ptr d i v off=>some (.ptr d i v (off+n))
 | .ptrT s r off=>some (.ptrT s r (off+n))
 | _=>none

def gd (P:Program) (t:TypeId) (a:AV) (f:Nat):Option AV :=
 match P.underlying t with
 | some (.struct fs)=>match fs[f]? with
   | some g=>match bf P g.type with
     | some (_+1)=>ka a g.offset
     | _=>none
   | none=>none
 | _=>none

def fh (P:Program) (t:TypeId) (x:AV) (i:Int):Option AV :=
 match P.underlying t,x with
 | some (.array n e),x=>match bf P e with
   | some z=>if 0≤i∧i<n then ka x (i.toNat*z) else none
   | none=>none
 | some (.slice e),.slc d j v off sz len _ =>
   if 0≤i∧i<len∧bf P e=some sz then some (.ptr d j v (off+i.toNat*sz)) else none
 | some (.slice e),.slcT s r sz len _ =>
   if 0≤i∧i<len∧bf P e=some sz then some (.ptrT s r (i.toNat*sz)) else none
 | _,_=>none

def pH (P:Program) (t:TypeId) (x:AV) (i:Int):Option AV :=
 match P.underlying t,x with
 | some (.array n e),.agg r=>match bf P e with
   | some z=>if 0≤i∧i<n then gU P e r (i.toNat*z) else none
   | none=>none
 | some .string,.str s=>if 0≤i then (match s[i.toNat]? with
   | some b=>some (.int .u8 b.toNat)
   | none=>none) else none
 | _,_=>none

def r6 (P:Program) (t:TypeId) (x:AV) (f:Nat):Option AV :=
 match P.underlying t,x with
 | some (.struct fs),.agg r=>match fs[f]? with
   | some g=>gU P g.type r g.offset
   | none=>none
 | _,_=>none

def bound (o:Option AV) (dflt top:Nat):Option Nat :=
 match o with
 | none=>some dflt
 | some (.int _ i)=>if 0≤i∧i≤top then some i.toNat else none
 | some _=>none

def dR (lo hi mx:Option AV) (len:Nat):Option (Nat×Nat×Option Nat) :=
 match mx with
 | none=>match bound hi len len with
   | some h=>match bound lo 0 h with
     | some l=>some (l,h,none)
     | none=>none
   | none=>none
 | some a=>match bound (some a) 0 len with
   | some m=>if hi.isSome then (match bound hi len m with
     | some h=>match bound lo 0 h with
       | some l=>some (l,h,some m)
       | none=>none
     | none=>none) else none
   | none=>none

def p7 (P:Program) (t:TypeId) (x:AV) (lo hi mx:Option AV):Option AV :=
 match P.underlying t,x with
 | some (.slice e),.slc d j v off sz len cap =>
   match dR lo hi mx len with
   | some (l,h,mm)=>if bf P e=some sz then
      some (.slc d j v (off+l*sz) sz (h-l) (match mm with | none=>cap.map (· - l) | some m=>some (m-l))) else none
   | none=>none
 | some (.slice e),.slcT s r sz len full =>
   match dR lo hi mx len with
   | some (l,h,mm)=>if bf P e=some sz∧l*sz+(h-l)*sz≤r.len then
      some (.slcT s (r.sub (l*sz) ((h-l)*sz)) sz (h-l) (match mm with | none=>full && Nat.beq h len | some m=>Nat.beq h m)) else none
   | none=>none
 | some (.slice e),.nils =>
   match dR lo hi mx 0,bf P e with
   | some _,some _=>some .nils
   | _,_=>none
 | some (.array n e),.ptr d j v off =>
   match dR lo hi mx n with
   | some (l,h,mm)=>match bf P e with
     | some sz=>some (.slc d j v (off+l*sz) sz (h-l) (match mm with | none=>some (n-l) | some m=>some (m-l)))
     | none=>none
   | none=>none
 | _,_=>none

def tJ (P:Program) (H:aa) (t:TypeId) (x:AV):Option Int :=
 match P.underlying t,x with
 | some (.array n _),_=>some n
 | some (.slice _),.nils=>some 0
 | some (.slice _),.slc _ _ _ _ _ len _=>some len
 | some (.slice _),.slcT _ _ _ len _=>some len
 | some (.map _ _),.nilm=>some 0
 | some (.map _ _),.map d i=>match ao H d i with
   | (0,.map es)=>some es.length
   | (0,.fmap _ _ _ c)=>some c
   | _=>none
 | _,_=>none

def HI (P:Program) (t:TypeId) (x:AV):Option Int :=
 match P.underlying t,x with
 | some (.slice _),.nils=>some 0
 | some (.slice _),.slc _ _ _ _ _ _ (some c)=>some c
 | _,_=>none

def ec (H:aa) (sz n:Nat) (x:AV):Option Row :=
 match x with
 | .nils=>if n=0 then some (.G []) else none
 | .slc d i v off sz' len _=>match cX H d i v with
   | some r=>if sz'=sz∧n≤len∧off+n*sz≤r.len then some (z6 d (r.sub off (n*sz))) else none
   | none=>none
 | .slcT s r sz' len _=>if sz'=sz∧n≤len∧n*sz≤r.len then some (match s with | none=>r.sub 0 (n*sz) | some k=>z6 k (r.sub 0 (n*sz))) else none
 | _=>none
def na:AV→Option Nat
 | .nils=>some 0
 | .slc _ _ _ _ _ len _=>some len
 | .slcT _ _ _ len _=>some len
 | _=>none

def room:Nat:=2 ^ 46

def CK (P:Program) (sy:Bool) (nx:Nat) (e:TypeId) (s x:AV):Option (AV×Delta) :=
 match P.info? e,s,x with
 | some inf,.nils,.int _ k =>
   if 0≤k∧k.toNat≤room∧k.toNat*inf.bytes≤room∧0<inf.size∧((ct P e).bind AV.row).map Row.len=some inf.size then
    (if k=0 then some (.nils,.aX) else some (.slc 0 nx 0 0 inf.size k.toNat none,.push (.row (qP sy (.I .i64 [])))))
   else none
 | _,_,_=>none
def nQ      (P:Program) (sy:Bool) (H:aa) (nx:Nat) (t u:TypeId) (s x:AV):Option (AV×Delta) :=
 match P.underlying t,P.underlying u with
 | some (.slice e),some (.int _)=>CK P sy nx e s x
 | some (.slice e),some (.slice _) =>
   match P.info? e,na s,na x with
   | some inf,some m,some n =>
     if n=0 then (match s,x with
      | .nils,_=>some (s,.aX)
      | .slc ..,_=>some (s,.aX)
      | .slcT ..,_=>some (s,.aX)
      | _,_=>none)
     else if (m+n)*inf.bytes≤room∧(m+n)≤room∧0<inf.bytes∧((ct P e).bind AV.row).map Row.len=some inf.size then
      match ec H inf.size n x with
      | none=>none
      | some new =>
        match s with
        | .nils=>some (.slc 0 nx 0 0 inf.size n none,.push (.row (qP sy new)))
        | .slcT _ _ _ _ true=>match ec H inf.size m s with
          | some old=>some (.slc 0 nx 0 0 inf.size (m+n) none,.push (.row (qP sy (old.app new))))
          | none=>none
        | .slc d i v off sz _ (some c) =>
          if c<m+n then
           match ec H inf.size m s with
           | some old=>some (.slc 0 nx 0 0 inf.size (m+n) none,.push (.row (qP sy (old.app new))))
           | none=>none
          else if aw H d then none else
           match cX H d i v with
           | some r=>if sz=inf.size∧off+(m+n)*sz≤r.len then
              some (.slc d i v off sz (m+n) (some c),.set d i (v,.row (r.cr (off+m*sz) (iY d new).toList)))
             else none
           | none=>none
        | .slc d i v off sz _ none =>
          if aw H d then none else
          match cX H d i v with
          | some r=>if sz=inf.size∧off+m*sz=r.len then
             some (.slc d i (v+1) 0 sz (m+n) none,.set d i (v+1,.row ((r.sub off (m*sz)).app (iY d new))))
            else none
          | none=>none
        | _=>none
     else none
   | _,_,_=>none
 | _,_=>none

def copyV (P:Program) (H:aa) (t:TypeId) (s x:AV):Option (AV×Delta) :=
 match P.underlying t with
 | some (.slice e) =>
   match bf P e,na s,na x with
   | some z,some m,some n =>
     match ec H z (min n m) x with
     | none=>none
     | some new =>
       match s with
       | .nils=>some (.int .i64 (min n m:Nat),.aX)
       | .slc d i v off sz _ _ =>
         if aw H d then none else
         match cX H d i v with
         | some r=>if sz=z∧off+(min n m)*sz≤r.len then
            some (.int .i64 (min n m:Nat),.set d i (v,.row (jt r off (iY d new))))
           else none
         | none=>none
       | _=>none
   | _,_,_=>none
 | _=>none

def rR (P:Program) (H:aa) (t:TypeId) (s:AV):Option (AV×Delta) :=
 match P.underlying t,s with
 | some (.slice _),.nils=>some (.tup [],.aX)
 | some (.slice e),.slc d i v off sz len _ =>
   if aw H d then none else
   match (ct P e).bind AV.row,cX H d i v with
   | some z,some r=>if z.len=sz∧bf P e=some sz∧off+len*sz≤r.len then
      some (.tup [],if len=0 then .aX else .set d i (v,.row (if xy r then jt r off (dw z len) else r.cr off (dI z len).toList)))
     else none
   | _,_=>none
 | _,_=>none

def ey (mx:Bool) (k:IntKind) (x:Int):List AV→Option AV
 | []=>some (.int k x)
 | .int k' y::r=>if k=k' then ey mx k (if mx then (if y > x then y else x) else (if y<x then y else x)) r else none
 | _=>none
def nk (mx:Bool):List AV→Option AV
 | .int k x::r=>ey mx k x r
 | _=>none

def iB (P:Program) (sy:Bool) (nx:Nat) (t:TypeId) (l c:AV):Option (AV×Delta) :=
 match P.underlying t,l,c with
 | some (.slice e),.int _ l,.int _ c =>
   match P.info? e,(ct P e).bind AV.row with
   | some inf,some z =>
     if 0≤l∧l≤c∧c.toNat*inf.bytes≤room∧c.toNat≤room∧z.len=inf.size then
      some (.slc 0 nx 0 0 inf.size l.toNat (some c.toNat),.push (.row (if sy then dw z c.toNat else dI z c.toNat)))
     else none
   | _,_=>none
 | _,_,_=>none

def iX (P:Program) (nx:Nat) (t:TypeId) (len:Nat) (parts:List (Nat×AV)):Option (AV×Delta) :=
 match P.underlying t with
 | some (.slice e)=>match bf P e,(ct P e).bind AV.row with
   | some z,some zv =>
     if len*z≤2 ^ 24∧zv.len=z then
      (r7 (fun i=>some (i*z,z)) (dI zv len) parts).map fun r=>(.slc 0 nx 0 0 z len (some len),.push (.row r))
     else none
   | _,_=>none
 | _=>none

def oC (x y:AV):Option Bool :=
 match x,y with
 | .int k a,.int k' b=>if k=k' then some (a == b) else none
 | .agg (.I k a),.agg (.I k' b)=>if k=k'∧a.length=b.length then some (eQ a b) else none
 | _,_=>none
def fE (key:AV):List (AV×AV)→Nat→Option (Option Nat)
 | [],_=>some none
 | (k,_)::r,i=>match oC key k with
   | some true=>some (some i)
   | some false=>fE key r (i+1)
   | none=>none
def jm (P:Program) (t:TypeId) (x:AV):Bool :=
 match P.underlying t,x with
 | some (.int _),.int _ _=>true
 | some (.array _ _),.agg (.I _ l)=>bW P 20 t == some l.length
 | some (.struct _),.agg (.I _ l)=>bW P 20 t == some l.length
 | _,_=>false
def ug (H:aa) (m:AV):Option (Nat×List (AV×AV)) :=
 match m with
 | .nilm=>some (0,[])
 | .map d i=>match ao H d i with
   | (0,.map es)=>some (d,es)
   | _=>none
 | _=>none
def nr:List (AV×AV)→Nat→AV
 | [],_=>.undef
 | e::_,0=>e.2
 | _::r,i+1=>nr r i
def nB:List (AV×AV)→Nat→AV×AV→List (AV×AV)
 | [],_,_=>[]
 | _::r,0,x=>x::r
 | e::r,i+1,x=>e::nB r i x
def mZ:List (AV×AV)→Nat→List (AV×AV)
 | [],_=>[]
 | _::r,0=>r
 | e::r,i+1=>e::mZ r i
def um (H:aa) (m:AV):Option (KK×(List Int→Bool)×(List Int→Int)×Nat) :=
 match m with
 | .map d i=>match ao H d i with
   | (0,.fmap q h g c)=>some (q,h,g,c)
   | _=>none
 | _=>none
def tI:KK→AV→Option (List Int)
 | .num k,.int k' n=>if k=k' then some [n] else none
 | .str m,.agg (.I .i64 l)=>if Nat.beq l.length m then some l else none
 | _,_=>none
def JH:AV→Option KK
 | .int k _=>some (.num k)
 | .agg (.I .i64 l)=>some (.str l.length)
 | _=>none
def x8:AV→Option Int
 | .int .i64 n=>some n
 | _=>none
def dh (h:List Int→Bool) (n:List Int) (b:Bool):List Int→Bool:=fun i=>if i=n then b else h i
def eZ (g:List Int→Int) (n:List Int) (x:Int):List Int→Int:=fun i=>if i=n then x else g i
def nU (b:Bool) (c:Nat):Nat:=cond b c (c+1)
def wK (b:Bool) (c:Nat):Nat:=cond b (c-1) c
def sE (P:Program) (t:TypeId):al :=
 match P.underlying t with
 | some (.map kt et)=>match (ct P kt).bind JH,(ct P et).bind x8 with
   | some q,some _=>.fmap q (fun _=>false) (fun _=>0) 0
   | _,_=>.map []
 | _=>.map []
def oF (P:Program) (H:aa) (t:TypeId) (m key:AV) (ok:Bool):Option AV :=
 match P.underlying t with
 | some (.map kt et) =>
   if jm P kt key then
    match um H m with
    | some (q,h,g,_)=>match tI q key,(ct P et).bind x8 with
      | some n,some 0=>some (if ok then .tup [.int .i64 (g n),.bool (h n)] else .int .i64 (g n))
      | _,_=>none
    | none=>match ug H m,ct P et with
    | some (d,es),some z=>match fE key es 0 with
      | some (some i)=>some (if ok then .tup [fW d (nr es i),.bool true] else fW d (nr es i))
      | some none=>some (if ok then .tup [z,.bool false] else z)
      | none=>none
    | _,_=>none
   else none
 | _=>none
def jg (P:Program) (H:aa) (t:TypeId) (m key x:AV):Option Delta :=
 match P.underlying t,m with
 | some (.map kt _),.map d i =>
   if aw H d then none else
   if jm P kt key then
    match ao H d i with
    | (0,.fmap q h g c)=>match tI q key,x8 x with
      | some n,some y=>some (.set d i (0,.fmap q (dh h n true) (eZ g n y) (nU (h n) c)))
      | _,_=>none
    | (0,.map es)=>match fE key es 0 with
      | some (some j)=>some (.set d i (0,.map (nB es j (key,LB d x))))
      | some none=>some (.set d i (0,.map (es++[(key,LB d x)])))
      | none=>none
    | _=>none
   else none
 | _,_=>none
def oa (P:Program) (H:aa) (t:TypeId) (m key:AV):Option (AV×Delta) :=
 match P.underlying t,m with
 | some (.map kt _),.map d i =>
   if aw H d then none else
   if jm P kt key then
    match ao H d i with
    | (0,.fmap q h g c)=>match tI q key with
      | some n=>some (.tup [],.set d i (0,.fmap q (dh h n false) (eZ g n 0) (wK (h n) c)))
      | none=>none
    | (0,.map es)=>match fE key es 0 with
      | some (some j)=>some (.tup [],.set d i (0,.map (mZ es j)))
      | some none=>some (.tup [],.set d i (0,.map es))
      | none=>none
    | _=>none
   else none
 | _,_=>none

def dF (fr:au):List (Nat×Operand)→List (Nat×AV)
 | []=>[]
 | (i,x)::r=>(i,bB fr x)::dF fr r
def jr (fr:au):List Operand→List AV
 | []=>[]
 | x::r=>bB fr x::jr fr r

def lf {α:Type} (call:aJ) (a b:α):α :=
 match call .mode [] [] with
 | some _=>a
 | none=>b
def fk (P:Program) (call:aJ) (fr:au) (H:aa) (nx:Nat) (c:Call):Option (AV×Delta) :=
 match c.callee with
 | .value f=>match bB fr f with
   | .fn (.func g) a b=>(call (.fn g) (a++(jr fr c.args.toList++b)) H).map fun (v,H)=>(v,.heap H)
   | .yld d i=>(call (.round d i) (jr fr c.args.toList) H).map fun (v,H)=>(v,.heap H)
   | _=>none
 | .builtin .len=>match c.args.toList,c.argTypes.toList with
   | x::_,t::_=>(tJ P H t (bB fr x)).map fun n=>(.int .i64 n,.aX)
   | _,_=>none
 | .builtin .cap=>match c.args.toList,c.argTypes.toList with
   | x::_,t::_=>(HI P t (bB fr x)).map fun n=>(.int .i64 n,.aX)
   | _,_=>none
 | .builtin .append=>match c.args.toList,c.argTypes.toList with
   | s::x::_,t::u::_=>nQ P (lf call true false) H nx t u (bB fr s) (bB fr x)
   | _,_=>none
 | .builtin .copy=>match c.args.toList,c.argTypes.toList with
   | s::x::_,t::_=>copyV P H t (bB fr s) (bB fr x)
   | _,_=>none
 | .builtin .clear=>match c.args.toList,c.argTypes.toList with
   | s::_,t::_=>rR P H t (bB fr s)
   | _,_=>none
 | .builtin .delete=>match c.args.toList,c.argTypes.toList with
   | m::k::_,t::_=>oa P H t (bB fr m) (bB fr k)
   | _,_=>none
 | .builtin .min=>(nk false (jr fr c.args.toList)).map fun v=>(v,.aX)
 | .builtin .max=>(nk true (jr fr c.args.toList)).map fun v=>(v,.aX)
 | _=>none

def kp (o:Option AV):Option (AV×Delta):=o.map fun v=>(v,.aX)

def evalOp (P:Program) (call:aJ) (fr:au) (H:aa) (nx:Nat) (o:Oper):Option (AV×Delta) :=
 match o.op with
 | .move x | .assign x=>some (bB fr x,.aX)
 | .pick c a b=>match bB fr c with
   | .bool t=>some (if t then bB fr a else bB fr b,.aX)
   | _=>none
 | .alloc t=>((ct P t).bind AV.row).map fun z=>(.ptr 0 nx 0 0,.push (.row (lf call (iT z) z)))
 | .box _ x=>(bB fr x).row.map fun r=>(.ptr 0 nx 0 0,.push (.row (lf call (iT r) r)))
 | .build t parts=>kp (vl P (lf call true false) t (dF fr parts.toList))
 | .buildSlice t len parts=>iX P nx t len (dF fr parts.toList)
 | .load t a=>kp (lS P H t (bB fr a))
 | .store t a x=>(fQ P H t (bB fr a) (bB fr x)).map fun δ=>(.tup [],δ)
 | .nilCheck x=>match bB fr x with
   | .ptr d i v off=>some (.ptr d i v off,.aX)
   | .ptrT s r off=>some (.ptrT s r off,.aX)
   | _=>none
 | .binOp op t x y _=>kp (jD P op t (bB fr x) (bB fr y))
 | .unOp op _ x=>kp (K0 op (bB fr x))
 | .convert src dst x=>match P.underlying src,P.underlying dst,bB fr x with
   | some _,some (.int k),.int _ n=>some (.int k (k.wrap n),.aX)
   | _,_,_=>none
 | .makeFunc fn first cap=>match fn with
   | .func g=>some (.fn (.func g) (jr fr first.toList) (jr fr cap.toList),.aX)
   | _=>none
 | .makeSlice t l c=>iB P (lf call true false) nx t (bB fr l) (bB fr c)
 | .slice t x lo hi mx=>kp (p7 P t (bB fr x) (lo.map (bB fr)) (hi.map (bB fr)) (mx.map (bB fr)))
 | .fieldAddr t x f=>kp (gd P t (bB fr x) f)
 | .field t x f=>kp (r6 P t (bB fr x) f)
 | .indexAddr t x i=>match bB fr i with
   | .int _ n=>kp (fh P t (bB fr x) n)
   | _=>none
 | .index t x i=>match bB fr i with
   | .int _ n=>kp (pH P t (bB fr x) n)
   | _=>none
 | .makeMap t none=>some (.map 0 nx,.push (lf call (sE P t) (.map [])))
 | .lookup t m k ok=>kp (oF P H t (bB fr m) (bB fr k) ok)
 | .mapUpdate t m k x | .insert t m k x=>(jg P H t (bB fr m) (bB fr k) (bB fr x)).map fun δ=>(.tup [],δ)
 | .extract t ix=>match bB fr t with
   | .tup l=>match l[ix]? with
     | some v=>some (v,.aX)
     | none=>none
   | _=>none
 | .call c=>fk P call fr H nx c
 | _=>none

inductive Want where
 | run | skip | lost
def gJ (ops:Array Oper) (fr:au) (o:Oper):Want :=
 match o.guard with
 | none=>.run
 | some (j,want)=>match (ops[j]?).bind (·.dst) with
   | none=>.lost
   | some d=>match bh fr d with
     | .bool b=>if b == want then .run else .skip
     | .tup _=>.skip
     | _=>.lost

def c9 (nt:Nat) (fr:au) (dst:Option Tmp) (v:AV):au :=
 match dst with
 | some d=>if Nat.blt d nt then tB fr d v else fr
 | none=>fr

def dr (P:Program) (nt:Nat) (call:aJ) (ops:Array Oper):List Oper→au→aa→Option (au×aa)
 | [],fr,H=>some (fr,H)
 | o :: r,fr,H=>match gJ ops fr o with
   | .lost=>none
   | .skip=>dr P nt call ops r (c9 nt fr o.dst (.tup [])) H
   | .run=>match evalOp P call fr H (an H) o with
     | none=>none
     | some (v,δ)=>dr P nt call ops r (c9 nt fr o.dst v) (δ.on H)

inductive Touch where
 | none
 | blk (d i:Nat)
 | all
structure Rec where
 ix:Nat
 reads:Touch
 writes:Option (Nat×Nat)
def cw (fr:au) (o:Oper):Touch :=
 let at' (v:AV):Touch:=match v with
  | .ptr d i _ _=>.blk d i
  | .slc d i _ _ _ _ _=>.blk d i
  | .map d i=>.blk d i
  | _=>.none
 match o.op with
 | .load _ a=>at' (bB fr a)
 | .store _ a _=>at' (bB fr a)
 | .lookup _ m _ _=>at' (bB fr m)
 | .mapUpdate _ m _ _ | .insert _ m _ _=>at' (bB fr m)
 | .call c=>match c.callee with
   | .builtin .len=>match c.args.toList with
     | x::_=>match bB fr x with | .map d i=>.blk d i | _=>.none
     | _=>.all
   | .builtin .min | .builtin .max=>.none
   | _=>.all
 | _=>.none
def cT (H:aa) (bef:Nat):List Rec→aa
 | []=>H
 | r::l=>match r.writes with
   | some (d,i)=>if bef.testBit r.ix then cT H bef l else cT (b9 H d i) bef l
   | none=>cT H bef l
def iD (bef:Nat) (d i:Nat):List Rec→Bool
 | []=>true
 | r::l=>(bef.testBit r.ix || (match r.reads with
   | .none=>true
   | .blk e j=>!(Nat.beq e d && Nat.beq j i)
   | .all=>false)) && iD bef d i l

def fL (o:Oper):Bool :=
 match o.op with
 | .alloc _ | .box _ _ | .buildSlice _ _ _ | .makeSlice _ _ _ | .makeMap _ _=>true
 | .call c=>match c.callee with
   | .builtin .append=>true
   | _=>false
 | _=>false
def cq:List Oper→Nat
 | []=>0
 | o::r=>if fL o then cq r+1 else cq r
def jN:aa→Nat→aa
 | [],_=>[]
 | l::r,k=>{ l with bs:=l.bs++List.replicate k (0,.dead) } :: r
def eu:al→Bool
 | .dead=>true
 | _=>false
def oB:Nat×al→Bool
 | (0,.dead)=>true
 | _=>false
def eI (o:Oper):Bool :=
 match o.op with
 | .call c=>match c.callee with
   | .value _=>true
   | _=>false
 | _=>false
def qS (H:aa):Option (Nat×Nat×(Nat×al))→aa
 | none=>H
 | some (d,i,b)=>df H d i b
structure tk where
 v:AV
 rd:Touch
 wr:Option (Nat×Nat×(Nat×al))
def eh (P:Program) (call:aJ) (ops:Array Oper) (bef:Nat) (fr:au) (H:aa) (nx:Nat) (recs:List Rec) (o:Oper):Option tk :=
 match gJ ops fr o with
 | .lost=>none
 | .skip=>some ⟨.tup [],.none,none⟩
 | .run =>
   if eI o then match evalOp P call fr (av (cT H bef recs)) nx o with
    | some (v,_)=>some ⟨v,.all,none⟩
    | none=>none
   else match evalOp P call fr (cT H bef recs) nx o with
    | some (v,.aX)=>some ⟨v,cw fr o,none⟩
    | some (v,.push b)=>if fL o && !eu b && oB (ao H 0 nx) && !aw H 0 then some ⟨v,cw fr o,some (0,nx,(0,b))⟩ else none
    | some (v,.set d i b)=>if !eu b.2 && (Nat.beq b.1 (ao H d i).1 || Nat.beq b.1 (Nat.succ (ao H d i).1)) && !eu (ao (cT H bef recs) d i).2 && iD bef d i recs then some ⟨v,cw fr o,some (d,i,b)⟩ else none
    | _=>none

def fb (P:Program) (nt:Nat) (call:aJ) (ops:Array Oper) (befs:Array Nat):Nat→List Oper→au→aa→Nat→List Rec→Option (au×aa)
 | _,[],fr,H,_,_=>some (fr,H)
 | j,o::r,fr,H,nx,recs=>match eh P call ops (befs.getD j 0) fr H nx recs o with
   | some e=>fb P nt call ops befs (j+1) r (c9 nt fr o.dst e.v) (qS H e.wr) (if fL o then nx+1 else nx) (⟨j,e.rd,e.wr.map fun x=>(x.1,x.2.1)⟩::recs)
   | none=>none

def eP (ops:Array Oper) (befs:Array Nat):Bool :=
 ops.toList.zipIdx.all fun (o,j)=>Nat.blt (befs.getD j 0) (2 ^ j) &&
  ops.toList.zipIdx.all fun (q,i) =>
   Nat.beq i j || (match q.dst with
   | none=>true
   | some d=>(o.dst != some d) && (!(o.looksAt ops).contains d || (befs.getD j 0).testBit i || (befs.getD i 0).testBit j))

inductive Ex where
 | normal | exit (id:Nat) | goto (l:Nat) | ret

def AD:Option Nat→Bool
 | some 0=>true
 | _=>false
def BE:AV→Bool
 | .int _ _=>true
 | .bool _=>true
 | .nils=>true
 | .slcT none _ _ _ _=>true
 | .ptrT none _ _=>true
 | _=>false
def Jl:Row→Bool
 | .I _ _=>true
 | .F _ _=>true
 | .G l=>l.all BE
 | .M l=>fw l
def ld (n:Nat):AV→Bool
 | .ptr d i _ _=>Nat.beq d 0 && Nat.ble n i
 | .slc d i _ _ _ _ _=>Nat.beq d 0 && Nat.ble n i
 | .map d i=>Nat.beq d 0 && Nat.ble n i
 | .yld d i=>Nat.beq d 0 && Nat.ble n i
 | .ptrT s r _=>AD s && !Jl r
 | .slcT s _ _ _ _=>AD s
 | .agg (.G _)=>true
 | .agg (.M l)=>!fw l
 | .fn _ _ _=>true
 | .tup (_::_)=>true
 | _=>false
def anyM (f:AV→Bool):List aW→Bool
 | []=>false
 | .one v::r=>f v || anyM f r
 | .arr _ _ _::r=>anyM f r
def qT (n:Nat):AV→Bool
 | .agg (.G l)=>l.any (ld n)
 | .agg (.M l)=>anyM (ld n) l
 | .fn _ a b=>a.any (ld n) || b.any (ld n)
 | .ptrT (some 0) (.M l) _=>anyM (ld n) l
 | v=>ld n v
def Nj (n:Nat):Row→Bool
 | .I .. | .F ..=>false
 | .G l=>l.any (qT n)
 | .M l=>anyM (qT n) l
def Ci (n:Nat):al→Bool
 | .dead=>false
 | .row r=>Nj n r
 | .map es=>es.any fun e=>qT n e.1 || qT n e.2
 | .fmap _ _ _ _=>false
 | .loop _=>true
def cutAt (fr:au) (l:bo) (r:aa):Nat→Nat→aa
 | 0,_=>l::r
 | k+1,m=>if fr.any (fun x=>qT m x.2) || (l.bs.take m).any (fun x=>Ci m x.2) then cutAt fr l r k (m+1) else { l with bs:=l.bs.take m } :: r
def kU (n:Nat) (fr:au) (H:aa):aa :=
 match H with
 | []=>[]
 | l::r=>if Nat.ble l.bs.length n then H else cutAt fr l r 4 n

def Gr:AV→Bool
 | .ptrT (some 0) (.M l) _=>anyM (ld 0) l
 | v=>ld 0 v
def tR (h:Nat):AV→Bool
 | .ptr d i _ _=>Nat.beq d 0 && Nat.beq i h
 | .slc d i _ _ _ _ _=>Nat.beq d 0 && Nat.beq i h
 | .map d i=>Nat.beq d 0 && Nat.beq i h
 | .yld d i=>Nat.beq d 0 && Nat.beq i h
 | v=>Gr v
def pf (f:AV→Bool) (v:AV):Bool :=
 match v with
 | .agg (.G l)=>l.any f
 | .agg (.M l)=>anyM f l
 | .fn _ a b=>a.any f || b.any f
 | v=>f v
def Jc (f:AV→Bool):Row→Bool
 | .I .. | .F ..=>false
 | .G l=>l.any (pf f)
 | .M l=>anyM (pf f) l
def yW (f:AV→Bool):al→Bool
 | .dead=>false
 | .row r=>Jc f r
 | .map _=>true
 | .fmap _ _ _ _=>false
 | .loop _=>true
def tM (a b:Nat):AV→AV
 | .ptr d i v off=>if Nat.beq d 0 && Nat.beq i a then .ptr 0 b v off else .ptr d i v off
 | .slc d i v off sz len cap=>if Nat.beq d 0 && Nat.beq i a then .slc 0 b v off sz len cap else .slc d i v off sz len cap
 | .map d i=>if Nat.beq d 0 && Nat.beq i a then .map 0 b else .map d i
 | .yld d i=>if Nat.beq d 0 && Nat.beq i a then .yld 0 b else .yld d i
 | v=>v
def mF (g:AV→AV) (v:AV):AV :=
 match v with
 | .agg (.G l)=>.agg (.G (l.map g))
 | .agg (.M l)=>.agg (.M (mapM' g l))
 | .fn f a b=>.fn f (a.map g) (b.map g)
 | v=>g v
def DH (g:AV→AV):Row→Row
 | .I k l=>.I k l
 | .F f n=>.F f n
 | .G l=>.G (l.map (mF g))
 | .M l=>.M (mapM' (mF g) l)
def pO (g:AV→AV):al→al
 | .row r=>.row (DH g r)
 | b=>b
def pP (g:AV→AV):au→au
 | []=>[]
 | (x,v)::r=>(x,mF g v)::pP g r
def jb (g:AV→AV):List (Nat×al)→List (Nat×al)
 | []=>[]
 | (v,b)::r=>(v,pO g b)::jb g r
def hole (fr:au) (bs:List (Nat×al)):Nat→Nat→Option Nat
 | 0,_=>none
 | k+1,m=>if Nat.blt (m+1) bs.length then
    if fr.any (fun x=>pf (tR m) x.2) || ((bs.take m).any (fun x=>yW (tR m) x.2) || (bs.drop (m+1)).any (fun x=>yW (tR m) x.2)) then hole fr bs k (m+1) else some m
   else none
def wC (a b:Nat) (l:bo):bo:={ l with bs:=bA (jb (tM a b) (l.bs.take a)) b ((ak l.bs a).1,pO (tM a b) (ak l.bs a).2) }
def iM (n:Nat):Nat→au→aa→au×aa
 | 0,fr,H=>(fr,H)
 | k + 1,fr,H=>match H with
   | []=>(fr,[])
   | l::r=>match hole fr l.bs 4 n with
     | none=>(fr,l::r)
     | some h=>iM n k (pP (tM (l.bs.length-1) h) fr) (kU n (pP (tM (l.bs.length-1) h) fr) (wC (l.bs.length-1) h l::r))
def tidy (n:Nat) (fr:au) (H:aa):au×aa:=iM n 4 fr (kU n fr H)

def mE (i ver:Nat) (r:Row):AV→AV
 | .ptr d j v off=>if Nat.beq d 0 && (Nat.beq j i && Nat.beq v ver) then .ptrT none r off else .ptr d j v off
 | .slc d j v off sz len cap=>if Nat.beq d 0 && (Nat.beq j i && (Nat.beq v ver && Nat.ble (off+len*sz) r.len)) then .slcT none (r.sub off (len*sz)) sz len (cap == some len) else .slc d j v off sz len cap
 | v=>v
def oV (i:Nat):AV→Bool
 | .slc d j _ _ _ _ _=>Nat.beq d 0 && Nat.beq j i
 | _=>false
def vH:Row→Bool
 | .I _ _=>true
 | .M [.arr _ _ _]=>true
 | _=>false
def IM (f:AV→Bool):al→Bool
 | .row r=>Jc f r
 | _=>false
def lK (i:Nat) (fr:au) (l:bo):au×bo :=
 match ak l.bs i with
 | (ver,.row r)=>if vH r && (fr.any (fun x=>pf (oV i) x.2) || l.bs.any (fun x=>IM (oV i) x.2)) then (pP (mE i ver r) fr,{ l with bs:=bA (jb (mE i ver r) l.bs) i (ver,.dead) }) else (fr,l)
 | _=>(fr,l)
def iz:Nat→au→bo→au×bo
 | 0,fr,l=>(fr,l)
 | n+1,fr,l=>lK n (iz n fr l).1 (iz n fr l).2
def BX (fr:au) (H:aa):au×aa :=
 match H with
 | []=>(fr,[])
 | l::r=>if l.lock then (fr,l::r) else ((iz l.bs.length fr l).1,(iz l.bs.length fr l).2::r)
def dT:Nat→au→bo→au×bo
 | 0,fr,l=>(fr,l)
 | n+1,fr,l=>if (dT n fr l).1.any (fun x=>pf (oV n) x.2) then dT n fr l else lK n (dT n fr l).1 (dT n fr l).2
def tG (fr:au) (H:aa):au×aa :=
 match H with
 | []=>(fr,[])
 | l::r=>if l.lock then (fr,l::r) else ((dT l.bs.length fr l).1,(dT l.bs.length fr l).2::r)
def JY (sz:Nat):AV→AV
 | .nils=>.slcT none (.M [.arr .i64 (fun _=>0) 0]) sz 0 false
 | v=>v
def Ca (sz:Nat):Nat→List AV→List AV
 | _,[]=>[]
 | 0,v::l=>JY sz v::l
 | c+1,v::l=>v::Ca sz c l
def tN (c sz:Nat):al→al
 | .row (.G l)=>.row (.G (Ca sz c l))
 | B=>B
def lV (c sz:Nat):List (Nat×al)→List (Nat×al)
 | []=>[]
 | (v,B)::r=>(v,tN c sz B)::lV c sz r
def DW (k:Nat) (H:aa):aa :=
 match H with
 | []=>[]
 | l::r=>if l.lock then l::r else { l with bs:=lV (k % 8) (k / 8) l.bs } :: r
def AL (s:Nat):au→Option Nat
 | []=>none
 | (x,v)::r=>if Nat.beq x s then (match v with
   | .slc 0 i _ _ _ _ _=>some i
   | _=>none) else AL s r
def vF (s:Nat) (fr:au) (H:aa):au×aa :=
 match H with
 | []=>(fr,[])
 | l::r=>if l.lock then (fr,l::r) else match AL s fr with
   | some i=>((lK i fr l).1,(lK i fr l).2::r)
   | none=>(fr,l::r)
noncomputable def lL (m:Nat) (fr:au) (H:aa):au×aa:=if nj m 4000 then ((BX (bF fr m) H).1,if Nat.beq (Nat.shiftRight m 4003) 0 then (BX (bF fr m) H).2 else DW (Nat.shiftRight m 4003) (BX (bF fr m) H).2) else if nj m 4001 then vF (Nat.shiftRight m 4003) (bF fr m) H else if nj m 4002 then (match bh (bF fr m) (Nat.shiftRight m 4003) with | .bool false=>tG (bF fr m) H | _=>(bF fr m,H)) else (bF fr m,H)

def iter (body:au→aa→Option (Ex×au×aa)) (n:Nat):Nat→au→aa→Option (Ex×au×aa)
 | 0,_,_=>none
 | fu+1,fr,H=>match body fr H with
   | some (.normal,fr,H)=>iter body n fu (tidy n fr H).1 (tidy n fr H).2
   | r=>r

structure Cx where
 P:Program
 call:aJ
 fu:Nat
 fn:FuncId
 nt:Nat
 kt:Nat→Nat
 ro:Option (Nat×Nat)
def Cx.here (cx:Cx) (H:aa):Bool :=
 match cx.ro with
 | none=>true
 | some (d,i)=>match ao H d i with
   | (0,.loop _)=>true
   | _=>false

def gn (fr:au) (H:aa) (cx:Cx) (params:Array Tmp) (assign body:Code):aa :=
 iy H (.loop { state:=.ready,pending:=none,fn:=cx.fn,nt:=cx.nt,fr,params:=params.toList,assign,body })

def rV:Option Code→Option Ex
 | none=>some .normal
 | some (.exit id)=>some (.exit id)
 | some (.goto l)=>some (.goto l)
 | some .ret=>some .ret
 | _=>none

noncomputable def exec (cx:Cx):Code→au→aa→Option (Ex×au×aa)
 | .skip,fr,H=>some (.normal,fr,H)
 | .label _,fr,H=>some (.normal,fr,H)
 | .region id ops draw,fr,H =>
   match (if draw then (if eP ops (Region.before ops) then fb cx.P cx.nt cx.call ops (Region.before ops) 0 ops.toList fr (jN H (cq ops.toList)) (an H) [] else none) else dr cx.P cx.nt cx.call ops ops.toList fr H) with
   | some (fr,H)=>some (.normal,lL (cx.kt id) fr H)
   | none=>none
 | .seq a b,fr,H=>match exec cx a fr H with
   | some (.normal,fr,H)=>exec cx b fr H
   | r=>r
 | .cond c a b,fr,H=>match bB fr c with
   | .bool true=>exec cx a fr H
   | .bool false=>exec cx b fr H
   | _=>none
 | .block id b,fr,H=>match exec cx b fr H with
   | some (.exit id',fr,H)=>if Nat.beq id' id then some (.normal,fr,H) else some (.exit id',fr,H)
   | r=>r
 | .loop b,fr,H=>iter (exec cx b) (an H) cx.fu fr H
 | .rangeFunc f params assign body,fr,H =>
   match bB fr f with
   | .fn (.func g) a b =>
     if !cx.here H || aw H 0 then none else
     match cx.call (.fn g) (a++(.yld 0 (an H)::b)) (gn fr H cx params assign body) with
     | some (_,H1)=>match ao H1 0 (an H) with
       | (0,.loop l) =>
         if l.state == .busy then none else
         match rV l.pending with
         | some e=>some (e,fr,b9 H1 0 (an H))
         | none=>none
       | _=>none
     | none=>none
   | _=>none
 | .exit id,fr,H=>some (.exit id,fr,H)
 | .scope b,fr,H=>match exec cx b fr H with
   | some (.goto _,_,_)=>none
   | r=>r
 | .goto l,fr,H=>some (.goto l,fr,H)
 | .ret,fr,H=>some (.ret,fr,H)
 | .refuse _,_,_=>none

def cG   (bs:List (Nat×al)):Nat→AV→AV
 | 0,_=>.undef
 | n + 1,v=>match v with
   | .ptr d i ver off=>match d with
     | d+1=>.ptr d i ver off
     | 0 => match ak bs i with
       | (w,.row r)=>if Nat.beq w ver then (match r with
         | .I k l=>.ptrT none (.I k l) off
         | .F f m=>.ptrT none (.F f m) off
         | .M l=>if fw l then .ptrT none (.M l) off else .ptrT (some 0) (.M (mapM' (cG bs n) l)) off
         | .G l=>.ptrT (some 0) (.G (l.map (cG bs n))) off) else .undef
       | _=>.undef
   | .slc d i ver off sz len cap=>match d with
     | d+1=>.slc d i ver off sz len cap
     | 0 => match ak bs i with
       | (w,.row r)=>if Nat.beq w ver∧off+len*sz≤r.len then (match r.sub off (len*sz) with
         | .I k l=>.slcT none (.I k l) sz len (cap == some len)
         | .F f m=>.slcT none (.F f m) sz len (cap == some len)
         | .M l=>if fw l then .slcT none (.M l) sz len (cap == some len) else .slcT (some 0) (.M (mapM' (cG bs n) l)) sz len (cap == some len)
         | .G l=>.slcT (some 0) (.G (l.map (cG bs n))) sz len (cap == some len)) else .undef
       | _=>.undef
   | .ptrT s r off=>match s with
     | none=>.ptrT none r off
     | some (s+1)=>.ptrT (some s) r off
     | some 0=>match r with
       | .G l=>.ptrT (some 0) (.G (l.map (cG bs n))) off
       | .M l=>if fw l then .ptrT none (.M l) off else .ptrT (some 0) (.M (mapM' (cG bs n) l)) off
       | r=>.ptrT none r off
   | .slcT s r sz len full=>match s with
     | none=>.slcT none r sz len full
     | some (s+1)=>.slcT (some s) r sz len full
     | some 0=>match r with
       | .G l=>.slcT (some 0) (.G (l.map (cG bs n))) sz len full
       | .M l=>if fw l then .slcT none (.M l) sz len full else .slcT (some 0) (.M (mapM' (cG bs n) l)) sz len full
       | r=>.slcT none r sz len full
   | .map d i=>match d with
     | d+1=>.map d i
     | 0=>.undef
   | .yld d i=>match d with
     | d+1=>.yld d i
     | 0=>.undef
   | .fn f a b=>.fn f (a.map (cG bs n)) (b.map (cG bs n))
   | .agg r=>match r with
     | .G l=>.agg (.G (l.map (cG bs n)))
     | .M l=>.agg (.M (mapM' (cG bs n) l))
     | r=>.agg r
   | .tup l=>.tup (l.map (cG bs n))
   | v=>v

def dC:Nat→List AV→au
 | _,[]=>[]
 | x,v::l=>(x,fW 1 v)::dC (x+1) l

def dZ (P:Program) (fr:au) (H:aa):List ResultVar→Option (List AV)
 | []=>some []
 | .tmp t::r=>(dZ P fr H r).map (bh fr t::·)
 | .cell a t::r=>match lS P H t (bh fr a) with
   | some v=>(dZ P fr H r).map (v::·)
   | none=>none
def one:List AV→AV
 | [v]=>v
 | l=>.tup l

def jV (nt:Nat) (fr:au):List Tmp→List AV→Option au
 | [],[]=>some fr
 | t::ts,v::vs=>if Nat.blt t nt then jV nt (tB fr t v) ts vs else none
 | _,_=>none

def cH:Ex→Option Code
 | .normal=>none
 | .exit id=>some (.exit id)
 | .goto l=>some (.goto l)
 | .ret=>some .ret

def la (k:Nat):au→au
 | []=>[]
 | (x,v)::r=>(x,fW k v)::la k r

noncomputable def cC (P:Program) (ora:aJ→FuncId→List AV→aa→Option (AV×aa)) (KT:FuncId→Nat→Nat) (fu:Nat):Nat→aJ
 | _,.mode,_,_=>(ora (fun _ _ _=>none) 1000000 [] []).map fun _=>(.undef,[])
 | 0,_,_,_=>none
 | n + 1,.fn f,args,H=>match ora (cC P ora KT fu n) f args H with
   | some r=>some r
   | none => match P.funcs[f]? with
     | none=>none
     | some fn=>match fn.body with
       | none=>none
       | some c=>if Nat.ble args.length fn.ntmps then
         match exec ⟨P,cC P ora KT fu n,fu,f,fn.ntmps,KT f,none⟩ c (dC 0 args) (⟨false,[]⟩::H) with
         | some (e,fr,l::H') =>
           (match e with
           | .normal | .ret=>match dZ P fr (l::H') fn.results.toList with
             | some vs=>some (cG l.bs 5 (one vs),H')
             | none=>none
           | _=>none)
         | _=>none
         else none
 | n + 1,.round  d i,args,H=>match ao H d i with
   | (0, .loop l) =>
     if aw H d then none else
     match l.state with
     | .ready => match jV l.nt (la (d+1) l.fr) l.params (args.map (fW 1)) with
       | some fr => match exec ⟨P,cC P ora KT fu n,fu,l.fn,l.nt,KT l.fn,some (d+1,i)⟩ l.assign fr (⟨false,[]⟩::H) with
         | some (.normal,fr,H1)=>match ao H1 (d+1) i with
           | (0, .loop l1)=>match l1.state with
             | .ready =>
               match exec ⟨P,cC P ora KT fu n,fu,l.fn,l.nt,KT l.fn,some (d+1,i)⟩ l.body fr (df H1 (d+1) i (0,.loop { l1 with state:=.busy })) with
               | some (e,_,_::H2)=>match ao H2 d i with
                 | (0,.loop l2)=>some (.bool (cH e).isNone,df H2 d i (0,.loop { l2 with state:=if (cH e).isNone then .ready else .done,pending:=cH e }))
                 | _=>none
               | _=>none
             | _=>none
           | _=>none
         | _=>none
       | none=>none
     | _=>none
   | _=>none

end Go.Eng
