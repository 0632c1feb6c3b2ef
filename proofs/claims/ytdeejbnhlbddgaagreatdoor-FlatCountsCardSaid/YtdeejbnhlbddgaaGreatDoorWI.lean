/- What is proved: a calculus for the model's code over frames that are functions and heaps that are told by lists is sound for the evaluator. Conditions: none. -/
import Derived.Test.YtdeejbnhlbddgaaGreatDoorWH
set_option linter.unusedVariables false
set_option linter.unusedSimpArgs false
set_option linter.unusedSectionVars false
namespace Go.Eng
set_option autoImplicit false
noncomputable section
inductive BN where
 |none
 |live (ro:Bool) (l:List AV)
 |mp (es:List (AV×AV))
structure HN where
 nx:Nat
 f:Nat→BN
abbrev FN:=Nat→AV
def HN.put (η:HN) (b:Nat) (y:BN):HN:=⟨η.nx,fun b'=>if b'=b then y else η.f b'⟩
def HN.new (η:HN) (y:BN):HN:=⟨η.nx+1,fun b'=>if b'=η.nx then y else η.f b'⟩
def upd (φ:FN) (d:Nat) (v:AV):FN:=fun t=>if t=d then v else φ t
def putN (d:Option Nat) (v:AV) (φ:FN):FN:=match d with|none=>φ|some d=>upd φ d v
inductive RES where
 |no
 |ok (v:AV) (η:HN)
 |call (f:FuncId) (args:List AV)
def cvD (o:Option AV):AV:=match o with|some a=>a|none=>und
def opd (φ:FN) (o:Operand):AV:=match o with
 |.tmp t=>φ t
 |.const v=>cvD (cv v)
 |.global g=>.ptr g 0
 |.func f=>.func f [] []
def opdO (φ:FN) (o:Option Operand):Option AV:=match o with|none=>none|some x=>some (opd φ x)
def cellsV (x:AV):Option (List AV):=match x with|.agg l=>some l|.tup _=>none|x=>some [x]
def setsL (l:List AV) (i:Nat):List AV→List AV
 | []=>l
 |a::r=>setsL (l.set i a) (i+1) r
def okO (o:Option AV) (η:HN):RES:=match o with|some v=>.ok v η|none=>.no
def okI (c:Bool) (r:RES):RES:=match c with|true=>r|false=>.no
def intN (op:BinOp) (k:IntKind) (a:Nat) (k':IntKind) (b:Nat):Option AV:=match op with
 |.shl=>if nneg k' b then some (.int k (shlN k a (min b (bitsN k)))) else none
 |.shr=>if nneg k' b then some (.int k (shrN k a (min b (bitsN k)))) else none
 |.add=>if keq k k' then some (.int k ((a+b)%modN k)) else none
 |.sub=>if keq k k' then some (.int k ((a+(modN k-b))%modN k)) else none
 |.mul=>if keq k k' then some (.int k ((a*b)%modN k)) else none
 |.quo=>if keq k k' then(if b=0 then none else some (.int k (quoN k a b))) else none
 |.rem=>if keq k k' then(if b=0 then none else some (.int k (remN k a b))) else none
 |.and=>if keq k k' then some (.int k (a &&& b)) else none
 |.or=>if keq k k' then some (.int k (a ||| b)) else none
 |.xor=>if keq k k' then some (.int k (a ^^^ b)) else none
 |.andNot=>if keq k k' then some (.int k (a &&& (modN k-1-b))) else none
 |.eql=>if keq k k' then some (.bool (a == b)) else none
 |.neq=>if keq k k' then some (.bool (!(a == b))) else none
 |.lss=>if keq k k' then some (.bool (ltN k a b)) else none
 |.leq=>if keq k k' then some (.bool (!ltN k b a)) else none
 |.gtr=>if keq k k' then some (.bool (ltN k b a)) else none
 |.geq=>if keq k k' then some (.bool (!ltN k a b)) else none
def strN (op:BinOp) (n v m w:Nat):Option AV:=match op with
 |.add=>if n+m≤9223372036854775807 then some (.str (n+m) (strCat n v w)) else none
 |.eql=>some (.bool (strEq n v m w))
 |.neq=>some (.bool (!strEq n v m w))
 |.lss=>some (.bool (strLt n v m w))
 |.leq=>some (.bool (ifB (strLt n v m w) true (strEq n v m w)))
 |.gtr=>some (.bool (!ifB (strLt n v m w) true (strEq n v m w)))
 |.geq=>some (.bool (!strLt n v m w))
 |_=>none
def boolO (neg:Bool) (o:Option Bool):Option AV:=match o with|some b=>some (.bool (if neg then !b else b))|none=>none
def eqN (P:Program) (op:BinOp) (t:TypeId) (nl:Bool) (x y:AV):Option AV:=if goodEq P t nl then(match op with
 |.eql=>boolO false ((eqB P t).f x y)
 |.neq=>boolO true ((eqB P t).f x y)
 |_=>none) else none
def binN (P:Program) (op:BinOp) (t:TypeId) (nl:Bool) (x y:AV):Option AV:=match x,y with
 |.int k a,.int k' b=>intN op k a k' b
 |.str n v,.str m w=>strN op n v m w
 |.bool a,y=>eqN P op t nl (.bool a) y
 |.nilptr,y=>eqN P op t nl .nilptr y
 |.ptr b o,y=>eqN P op t nl (.ptr b o) y
 |.nilslice,y=>eqN P op t nl .nilslice y
 |.slice b o l c,y=>eqN P op t nl (.slice b o l c) y
 |.nilFunc,y=>eqN P op t nl .nilFunc y
 |.func f a b,y=>eqN P op t nl (.func f a b) y
 |.agg l,y=>eqN P op t nl (.agg l) y
 |_,_=>none
def unN (op:UnOp) (x:AV):Option AV:=match op,x with
 |.neg,.int k a=>some (.int k ((modN k-a)%modN k))
 |.xor,.int k a=>some (.int k (modN k-1-a))
 |.not,.bool b=>some (.bool (!b))
 |_,_=>none
def cvtN (k' k:IntKind) (a:Nat):Nat:=if nneg k a then a%modN k' else res k' (sgn k a)
def ldC (o:Option AV) (η:HN):RES:=okO o η
def ldB (agg:Bool) (s off:Nat) (x:BN) (η:HN):RES:=match x with
 |.live _ l=>(match agg with
  |true=>if off+s≤l.length then .ok (.agg ((l.drop off).take s)) η else .no
  |false=>ldC l[off]? η)
 |_=>.no
def ldP (ty:Option (Nat×Nat×Bool)) (x:AV) (η:HN):RES:=match ty,x with
 |some (s,_,agg),.ptr b off=>ldB agg s off (η.f b) η
 |_,_=>.no
def stB (s b off:Nat) (cs:List AV) (x:BN) (η:HN):RES:=match x with
 |.live false l=>if cs.length=s∧off+s≤l.length then .ok und (η.put b (.live false (setsL l off cs))) else .no
 |_=>.no
def stV (s b off:Nat) (cs:Option (List AV)) (x:BN) (η:HN):RES:=match cs with|some l=>stB s b off l x η|none=>.no
def stP (ty:Option (Nat×Nat×Bool)) (x v:AV) (η:HN):RES:=match ty,x with
 |some (s,_,_),.ptr b off=>stV s b off (cellsV v) (η.f b) η
 |_,_=>.no
def newN (o:Option (List AV)) (η:HN):RES:=match o with|some l=>.ok (.ptr η.nx 0) (η.new (.live false l))|none=>.no
def idxN (i:AV) (k:Nat→RES):RES:=match i with|.int kd a=>if nneg kd a then k a else .no|_=>.no
def fldN (fd:Option FD) (x:AV) (η:HN):RES:=match fd,x with
 |some fd,.agg cs=>okO (partO fd.agg fd.size cs fd.off) η
 |_,_=>.no
def fldAN (fd:Option FD) (x:AV) (η:HN):RES:=match fd,x with
 |some fd,.ptr b off=>if fd.size=0 then .no else .ok (.ptr b (off+fd.off)) η
 |_,_=>.no
def fdAt (td:TD) (f:Nat):Option FD:=match td with|.struct fs=>fs[f]?|_=>none
def iaN (td:TD) (x i:AV) (η:HN):RES:=match td,x with
 |.slice _ s _,.slice b off len _=>idxN i fun i=>if i<len then .ok (.ptr b (off+i*s)) η else .no
 |.array n _ s _,.ptr b off=>idxN i fun i=>if i<n then .ok (.ptr b (off+i*s)) η else .no
 |_,_=>.no
def ixN (td:TD) (x i:AV) (η:HN):RES:=match td,x with
 |.str,.str n v=>idxN i fun i=>if i<n then .ok (.int .u8 (strAt v i)) η else .no
 |.array n _ s a,.agg cs=>idxN i fun i=>if i<n then okO (partO a s cs (i*s)) η else .no
 |_,_=>.no
def exN (x:AV) (i:Nat) (η:HN):RES:=match x with|.tup l=>okO l[i]? η|_=>.no
def fillN (φ:FN) (place:Nat→Option (Nat×Nat)):List (Nat×Operand)→List AV→Option (List AV)
 | [],cs=>some cs
 |p::r,cs=>match place p.1,cellsV (opd φ p.2) with
  |some (o,s),some l=>if l.length=s∧o+s≤cs.length then fillN φ place r (setsL cs o l) else none
  |_,_=>none
def aggO (o:Option (List AV)) (η:HN):RES:=match o with|some l=>.ok (.agg l) η|none=>.no
def bldN (td:TD) (z:Option AV) (φ:FN) (parts:List (Nat×Operand)) (η:HN):RES:=match td,z with
 |.array _ _ s _,some z=>aggO (fillN φ (fun i=>some (i*s,s)) parts (cellsA z)) η
 |.struct fs,some z=>aggO (fillN φ (fieldPlace fs) parts (cellsA z)) η
 |_,_=>.no
def slO (len:Nat) (o:Option (List AV)) (η:HN):RES:=match o with|some l=>.ok (.slice η.nx 0 len (.kn len)) (η.new (.live false l))|none=>.no
def repL (n:Nat) (l:List AV):List AV:=(List.replicate n l).flatten
def bldS (P:Program) (td:TD) (len:Nat) (φ:FN) (parts:List (Nat×Operand)) (η:HN):RES:=match td with
 |.slice el s _=>if len*s=0 then(match parts with | []=>slO len (some []) η|_=>.no)
   else if len*s≤16777216 then(match zeroT P el with|some z=>slO len (fillN φ (fun i=>some (i*s,s)) parts (repL len (cellsA z))) η|none=>.no) else .no
 |_=>.no
def mkSN (P:Program) (td:TD) (l c:AV) (η:HN):RES:=match td with
 |.slice el _ bytes=>(match zeroT P el with
  |some z=>idxN l fun l=>idxN c fun c=>if l≤c∧bytes≠0∧c*bytes≤140737488355328 then .ok (.slice η.nx 0 l (.kn c)) (η.new (.live false (repL c (cellsA z)))) else .no
  |none=>.no)
 |_=>.no
def bndN (o:Option AV) (d:Nat) (k:Nat→RES):RES:=match o with|none=>k d|some v=>idxN v k
def bndsN (lo hi:Option AV) (len top:Nat) (k:Nat→Nat→RES):RES:=bndN lo 0 fun l=>bndN hi len fun hh=>if l≤hh∧hh≤top then k l hh else .no
def slToN (b off l hh c s:Nat) (η:HN):RES:=if c=l then .ok (.slice b off 0 (.kn 0)) η else .ok (.slice b (off+l*s) (hh-l) (.kn (c-l))) η
def slHN (lo hi:Option AV) (b off len:Nat) (cap:Cp) (η:HN) (r:RES):RES:=match lo,hi with|none,some y=>idxN y fun m=>if m≤len then .ok (.slice b off m cap) η else r|_,_=>r
def slN (td:TD) (x:AV) (lo hi mx:Option AV) (η:HN):RES:=match td,x,mx with
 |.str,.str n v,none=>bndsN lo hi n n fun l hh=>.ok (.str (hh-l) (strCut v l (hh-l))) η
 |.slice _ s _,.nilslice,none=>bndsN lo hi 0 0 fun _ _=>.ok .nilslice η
 |.slice _ s _,.nilslice,some m=>idxN m fun m=>if m=0 then bndsN lo hi 0 0 fun _ _=>.ok .nilslice η else .no
 |.slice _ s _,.slice b off len (.kn c),none=>slHN lo hi b off len (.kn c) η (bndsN lo hi len c fun l hh=>slToN b off l hh c s η)
 |.slice _ s _,.slice b off len (.kn c),some m=>idxN m fun m=>if m≤c then bndsN lo hi len m fun l hh=>slToN b off l hh m s η else .no
 |.slice _ s _,.slice b off len (.un es),none=>slHN lo hi b off len (.un es) η (if es=s then bndsN lo hi len len fun l hh=>.ok (.slice b (off+l*s) (hh-l) (.un s)) η else .no)
 |.slice _ s _,.slice b off len (.un es),some m=>if es=s then idxN m fun m=>if m≤len then bndsN lo hi len m fun l hh=>slToN b off l hh m s η else .no else .no
 |.array n _ s _,.ptr b off,none=>bndsN lo hi n n fun l hh=>slToN b off l hh n s η
 |_,_,_=>.no
def lenI (n:Nat) (η:HN):RES:=if n≤9223372036854775807 then .ok (.int .i64 n) η else .no
def lenN (td:TD) (x:AV) (η:HN):RES:=match td,x with
 |.str,.str n _=>lenI n η
 |.slice _ _ _,.nilslice=>lenI 0 η
 |.slice _ _ _,.slice _ _ n _=>lenI n η
 |.array n _ _ _,_=>lenI n η
 |_,_=>.no
def capN (td:TD) (x:AV) (η:HN):RES:=match td,x with
 |.slice _ _ _,.nilslice=>lenI 0 η
 |.slice _ _ _,.slice _ _ _ (.kn c)=>lenI c η
 |_,_=>.no
def rowN (x:BN) (off n:Nat):Option (List AV):=match x with|.live _ l=>if off+n≤l.length then some ((l.drop off).take n) else none|_=>none
def apNewN (m s:Nat) (o:Option (List AV)) (new:List AV) (η:HN):RES:=match o with|some old=>.ok (.slice η.nx 0 m (.un s)) (η.new (.live false (old++new)))|none=>.no
def apKn (b off len s n c:Nat) (new:List AV) (x:BN) (η:HN):RES:=if len+n≤c then
  (match x with|.live false l=>if off+len*s+n*s≤l.length then .ok (.slice b off (len+n) (.kn c)) (η.put b (.live false (setsL l (off+len*s) new))) else .no|_=>.no)
 else apNewN (len+n) s (rowN x off (len*s)) new η
def apUn (b off len s n:Nat) (new:List AV) (x:BN) (η:HN):RES:=match x with
 |.live false l=>if off+len*s+n*s≤l.length then .ok (.slice b off (len+n) (.un s)) (η.put b (.live false (setsL l (off+len*s) new)))
   else if off+len*s=l.length∧new.length=n*s then .ok (.slice η.nx 0 (len+n) (.un s)) ((η.put b .none).new (.live false (l.drop off++new)))
   else if off+len*s≤l.length∧new.length=n*s then .ok (.slice η.nx 0 (len+n) (.un s)) ((η.put b .none).new (.live false ((l.drop off).take (len*s)++new))) else .no
 |_=>.no
def apN (s bytes:Nat) (x:AV) (n:Nat) (new:List AV) (η:HN):RES:=match x with
 |.nilslice=>if n=0 then .ok .nilslice η else if n*bytes≤140737488355328 then .ok (.slice η.nx 0 n (.un s)) (η.new (.live false new)) else .no
 |.slice b off len cap=>if(len+n)*bytes≤140737488355328 then(if n=0 then .ok (.slice b off len cap) η else(match cap with
  |.kn c=>apKn b off len s n c new (η.f b) η
  |.un es=>if es=s then apUn b off len s n new (η.f b) η else .no)) else .no
 |_=>.no
def apRow (s bytes:Nat) (x:AV) (n:Nat) (o:Option (List AV)) (η:HN):RES:=match o with|some l=>apN s bytes x n l η|none=>.no
def apSrcN (s bytes:Nat) (x y:AV) (η:HN):RES:=match y with
 |.str n v=>if s=1 then apN s bytes x n (byteCells n v) η else .no
 |.nilslice=>apN s bytes x 0 [] η
 |.slice b off len _=>if len=0 then apN s bytes x 0 [] η else apRow s bytes x len (rowN (η.f b) off (len*s)) η
 |_=>.no
def appN (P:Program) (td td2:TD) (x y:AV) (η:HN):RES:=match td,td2 with
 |.slice el s bytes,.int _=>if s*bytes=0 then .no else(match zeroT P el with|some z=>idxN y fun n=>if n*bytes≤140737488355328 then apN s bytes x n (repL n (cellsA z)) η else .no|none=>.no)
 |.slice el s bytes,.str=>if s*bytes=0 then .no else(match zeroT P el with|some _=>apSrcN s bytes x y η|none=>.no)
 |.slice el s bytes,.slice _ _ _=>if s*bytes=0 then .no else(match zeroT P el with|some _=>apSrcN s bytes x y η|none=>.no)
 |_,_=>.no
def cpB (s b off n:Nat) (o:Option (List AV)) (x:BN) (η:HN):RES:=match o,x with
 |some new,.live false l=>if off+n*s≤l.length∧n≤9223372036854775807 then .ok (.int .i64 n) (η.put b (.live false (setsL l off new))) else .no
 |_,_=>.no
def cpN (td:TD) (x y:AV) (η:HN):RES:=match td,x,y with
 |.slice _ s _,.slice b off len _,.str n v=>if s=1 then cpB s b off (min n len) (some (byteCells (min n len) v)) (η.f b) η else .no
 |.slice _ s _,.slice b off len _,.slice b' off' len' _=>cpB s b off (min len' len) (rowN (η.f b') off' (min len' len*s)) (η.f b) η
 |.slice _ _ _,.slice _ _ _ _,.nilslice=>.ok (.int .i64 0) η
 |.slice _ _ _,.nilslice,.str _ _=>.ok (.int .i64 0) η
 |.slice _ _ _,.nilslice,.nilslice=>.ok (.int .i64 0) η
 |.slice _ _ _,.nilslice,.slice _ _ _ _=>.ok (.int .i64 0) η
 |_,_,_=>.no
def minN' (x y:AV):Option AV:=match x,y with|.int k a,.int k' b=>if keq k k' then some (.int k (if ltN k b a then b else a)) else none|_,_=>none
def bytesN:List AV→Option Nat
 | []=>some 0
 |.int .u8 n::l=>(match bytesN l with|some m=>some (n+256*m)|none=>none)
 |_::_=>none
def clB (s b off n:Nat) (new:List AV) (x:BN) (η:HN):RES:=match x with|.live false l=>if off+n*s≤l.length then .ok und (η.put b (.live false (setsL l off new))) else .no|_=>.no
def clN (P:Program) (td:TD) (x:AV) (η:HN):RES:=match td,x with
 |.slice el s _,.slice b off len _=>(match zeroT P el with|some z=>if len=0 then .ok und η else clB s b off len (repL len (cellsA z)) (η.f b) η|none=>.no)
 |_,_=>.no
def strO (n:Nat) (o:Option Nat) (η:HN):RES:=match o with|some v=>.ok (.str n v) η|none=>.no
def strR (n:Nat) (o:Option (List AV)) (η:HN):RES:=match o with|some l=>strO n (bytesN l) η|none=>.no
def isU8D (td:TD):Bool:=match td with|.int .u8=>true|_=>false
def cvN' (P:Program) (src dst:TD) (x:AV) (η:HN):RES:=match dst,src,x with
 |.int k',.int _,.int k a=>.ok (.int k' (cvtN k' k a)) η
 |.str,.str,.str n v=>.ok (.str n v) η
 |.str,.slice e _ _,.nilslice=>if isU8D (tdOf P e) then .ok (.str 0 0) η else .no
 |.str,.slice e _ _,.slice b o l _=>if isU8D (tdOf P e) then strR l (rowN (η.f b) o l) η else .no
 |.slice e _ _,.str,.str n v=>if isU8D (tdOf P e) then .ok (.slice η.nx 0 n (.un 1)) (η.new (.live false (byteCells n v))) else .no
 |_,_,_=>.no
def roN (y:BN) (v:AV) (η:HN):RES:=match y with|.live false _=>.ok v η|_=>.no
def cvI (P:Program) (td:TD) (x:AV) (η:HN) (r:RES):RES:=match td,x with
 |.slice e _ _,.slice b o l c=>if isU8D (tdOf P e) then(if l=0 then .no else roN (η.f b) (.slice b o l c) η) else r
 |_,_=>r
def funN (fv:AV) (args:List AV):RES:=match fv with|.func f a c=>.call f (a++(args++c))|_=>.no
def biR (P:Program) (b:Builtin) (args:List Operand) (ts:List TypeId) (φ:FN) (η:HN):RES:=match b,args,ts with
 |.len,[x],t::_=>lenN (tdOf P t) (opd φ x) η
 |.cap,[x],t::_=>capN (tdOf P t) (opd φ x) η
 |.append,[x,y],t::t2::_=>appN P (tdOf P t) (tdOf P t2) (opd φ x) (opd φ y) η
 |.copy,[x,y],t::_::_=>cpN (tdOf P t) (opd φ x) (opd φ y) η
 |.min,[x,y],_::_::_=>okO (minN' (opd φ x) (opd φ y)) η
 |.clear,[x],t::_=>clN P (tdOf P t) (opd φ x) η
 |_,_,_=>.no
def callR (P:Program) (c:Call) (φ:FN) (η:HN):RES:=match c.callee with
 |.value f=>funN (opd φ f) (c.args.toList.map (opd φ))
 |.builtin b=>biR P b c.args.toList c.argTypes.toList φ η
 |_=>.no
def pickN (c a b:AV) (η:HN):RES:=match c with|.bool true=>.ok a η|.bool false=>.ok b η|_=>.no
def nilN (x:AV) (η:HN):RES:=match x with|.ptr b o=>.ok (.ptr b o) η|.func f a c=>.ok (.func f a c) η|_=>.no
def mkFN (fn:Fn) (a c:List AV) (η:HN):RES:=match fn with|.func f=>.ok (.func f a c) η|_=>.no
def fndN (q:AV→AV→Option Bool) (k:AV):List (AV×AV)→Option (Option AV)
 | []=>some none
 |e::r=>match q k e.1 with|some true=>some (some e.2)|some false=>fndN q k r|none=>none
def putM (q:AV→AV→Option Bool) (k v:AV):List (AV×AV)→Option (List (AV×AV))
 | []=>some [(k,v)]
 |e::r=>match q k e.1 with
  |some true=>some ((k,v)::r)
  |some false=>(match putM q k v r with|some r=>some (e::r)|none=>none)
  |none=>none
def keyD (td:TD):Option (AV→AV→Option Bool):=match td with|.bool=>some qBool|.int _=>some qInt|.str=>some qStr|_=>none
def esB (x:BN):Option (List (AV×AV)):=match x with|.mp es=>some es|_=>none
def esN (x:AV) (η:HN):Option (List (AV×AV)):=match x with|.map b=>esB (η.f b)|.nilmap=>some []|_=>none
def lkV (ok:Bool) (z:AV) (o:Option AV):AV:=match o with|some v=>if ok then .tup [v,.bool true] else v|none=>if ok then .tup [z,.bool false] else z
def lkO (ok:Bool) (z:AV) (o:Option (Option AV)) (η:HN):RES:=match o with|some o=>.ok (lkV ok z o) η|none=>.no
def lkE (q:AV→AV→Option Bool) (ok:Bool) (z k:AV) (es:Option (List (AV×AV))) (η:HN):RES:=match es with|some es=>lkO ok z (fndN q k es) η|none=>.no
def lkN (P:Program) (td:TD) (x k:AV) (ok:Bool) (η:HN):RES:=match td with
 |.map key elem=>(match keyD (tdOf P key),zeroT P elem with|some q,some z=>lkE q ok z k (esN x η) η|_,_=>.no)
 |_=>.no
def muO (b:Nat) (o:Option (List (AV×AV))) (η:HN):RES:=match o with|some es=>.ok und (η.put b (.mp es))|none=>.no
def muE (q:AV→AV→Option Bool) (b:Nat) (k v:AV) (es:Option (List (AV×AV))) (η:HN):RES:=match es with|some es=>muO b (putM q k v es) η|none=>.no
def muN (P:Program) (td:TD) (m k v:AV) (η:HN):RES:=match td,m with
 |.map key _,.map b=>(match keyD (tdOf P key) with|some q=>muE q b k v (esB (η.f b)) η|none=>.no)
 |_,_=>.no
def mkMN (r:Option Operand) (η:HN):RES:=match r with|none=>.ok (.map η.nx) (η.new (.mp []))|some _=>.no
def opR (P:Program) (op:Op) (φ:FN) (η:HN):RES:=match op with
 |.move x=>.ok (opd φ x) η
 |.assign x=>.ok (opd φ x) η
 |.pick c a b=>pickN (opd φ c) (opd φ a) (opd φ b) η
 |.alloc t=>newN ((zeroT P t).map cellsA) η
 |.box _ x=>newN (cellsV (opd φ x)) η
 |.build t ps=>bldN (tdOf P t) (zeroT P t) φ ps.toList η
 |.buildSlice t n ps=>bldS P (tdOf P t) n φ ps.toList η
 |.load t x=>ldP (tyOf P t) (opd φ x) η
 |.store t x v=>stP (tyOf P t) (opd φ x) (opd φ v) η
 |.nilCheck x=>nilN (opd φ x) η
 |.binOp op t x y _=>okO (binN P op t (isConstO x||isConstO y) (opd φ x) (opd φ y)) η
 |.unOp op _ x=>okO (unN op (opd φ x)) η
 |.convert s d x=>if s=d then cvI P (tdOf P d) (opd φ x) η (cvN' P (tdOf P s) (tdOf P d) (opd φ x) η) else cvN' P (tdOf P s) (tdOf P d) (opd φ x) η
 |.makeFunc fn a c=>mkFN fn (a.toList.map (opd φ)) (c.toList.map (opd φ)) η
 |.makeSlice t l c=>mkSN P (tdOf P t) (opd φ l) (opd φ c) η
 |.slice t x lo hi mx=>if noHi hi mx then .no else slN (tdOf P t) (opd φ x) (opdO φ lo) (opdO φ hi) (opdO φ mx) η
 |.fieldAddr t x f=>fldAN (fdAt (tdOf P t) f) (opd φ x) η
 |.field t x f=>fldN (fdAt (tdOf P t) f) (opd φ x) η
 |.indexAddr t x i=>iaN (tdOf P t) (opd φ x) (opd φ i) η
 |.index t x i=>ixN (tdOf P t) (opd φ x) (opd φ i) η
 |.extract x i=>exN (opd φ x) i η
 |.call c=>callR P c φ η
 |.makeMap _ r=>mkMN r η
 |.lookup t x k ok=>lkN P (tdOf P t) (opd φ x) (opd φ k) ok η
 |.mapUpdate t m k v=>muN P (tdOf P t) (opd φ m) (opd φ k) (opd φ v) η
 |_=>.no
end
end Go.Eng
namespace Go.Eng
set_option autoImplicit false
section
variable [Deep]
def RepB (x:Blk) (y:BN):Prop:=match y with
 |.none=>True
 |.live ro l=>∃cs,x=.live ro l.length cs∧∀i,i<l.length→cget cs i=l.getD i und
 |.mp es=>x=.mp es
structure Rep (h:H) (η:HN):Prop where
 nx:h.nx=η.nx
 blk:∀b,b<mostBlocks→RepB (hget h b) (η.f b)
end
def FrR (fr:Fr) (φ:FN):Prop:=∀t,slot fr t=φ t
theorem lt_most [Deep] {k:Nat} (h:k<Deep.d):k<mostBlocks:=Nat.lt_trans h (Nat.lt_pow_self (by decide))
theorem lt_most' [Deep] {k k0:Nat} (h:k<k0) (h':k0≤Deep.d):k<mostBlocks:=lt_most (Nat.lt_of_lt_of_le h h')
def HV (g:∀ [Deep],H→RV) (η:HN) (v:AV) (η':HN):Prop:=∃k0,∀ [Deep],k0≤Deep.d→∀h,Rep h η→∃h',g h=.val v h'∧Rep h' η'
theorem HV.pure {g:∀ [Deep],H→RV} {η:HN} {v:AV} (e:∀ [Deep] (h:H),g h=.val v h):HV g η v η:=⟨0,fun _ h r=>⟨h,e h,r⟩⟩
theorem HV.eq {g g':∀ [Deep],H→RV} {η η':HN} {v:AV} (e:∀ [Deep] (h:H),g h=g' h) (k:HV g' η v η'):HV g η v η':=by
 obtain⟨k0,k⟩:=k
 exact⟨k0,fun hd h r=>let ⟨h',a,b⟩:=k hd h r;⟨h',(e h).trans a,b⟩⟩
section
variable [Deep] {h:H} {η:HN}
theorem Rep.new (r:Rep h η) (hn:η.nx<mostBlocks) {x:Blk} {y:BN} (hxy:RepB x y):Rep ⟨h.nx+1,trSet Deep.d h.nx h.m x⟩ (η.new y):=by
 have e:=r.nx
 refine⟨by show h.nx+1=η.nx+1;rw[e],fun b hb=>?_⟩
 have hg:hget ⟨h.nx+1,trSet Deep.d h.nx h.m x⟩ b=if b=h.nx then x else hget h b:=trGet_set Deep.d h.nx b h.m x (by rw[e];exact hn) hb
 rw[hg,e]
 show RepB _ (if b=η.nx then y else η.f b)
 split
 ·exact hxy
 ·exact r.blk b hb
theorem Rep.put (r:Rep h η) {c:Nat} (hc:c<mostBlocks) {x:Blk} {y:BN} (hxy:RepB x y):Rep ⟨h.nx,trSet Deep.d c h.m x⟩ (η.put c y):=by
 refine⟨r.nx,fun b hb=>?_⟩
 have hg:hget ⟨h.nx,trSet Deep.d c h.m x⟩ b=if b=c then x else hget h b:=trGet_set Deep.d c b h.m x hc hb
 rw[hg]
 show RepB _ (if b=c then y else η.f b)
 split
 ·exact hxy
 ·exact r.blk b hb
theorem RepB_new (l:List AV):RepB (blkOf l) (.live false l):=⟨csetsD l .e 0,rfl,fun i hi=>by rw[cget_csets,if_pos (by omega),Nat.sub_zero]⟩
theorem newBlk_eq {l:List AV} {k:Nat→H→RV} (hm:h.nx<mostBlocks):newBlk h l k=k h.nx ⟨h.nx+1,trSet Deep.d h.nx h.m (blkOf l)⟩:=by
 unfold newBlk
 rw[csets_eq,forceN_eq,newB_eq hm,llen_eq]
 rfl
end
theorem HV.new {k:∀ [Deep],Nat→H→RV} {η:HN} {l:List AV} {v:AV} (e:∀ [Deep] (h:H),k η.nx h=.val v h):HV (fun h=>newBlk h l k) η v (η.new (.live false l)):=by
 refine⟨η.nx+1,fun hd h r=>?_⟩
 have hm:η.nx<mostBlocks:=lt_most' (Nat.lt_succ_self _) hd
 refine⟨⟨h.nx+1,trSet Deep.d h.nx h.m (blkOf l)⟩,?_,r.new hm (RepB_new l)⟩
 show newBlk h l k=_
 rw[newBlk_eq (by rw[r.nx];exact hm),r.nx]
 exact e _
theorem HV.blk {k:∀ [Deep],Bool→Nat→T AV→H→RV} {η η':HN} {b:Nat} {ro:Bool} {l:List AV} {v:AV} (hb:η.f b=.live ro l)
  (e:∃k0,∀ [Deep],k0≤Deep.d→b<mostBlocks→∀(h:H) (cs:T AV),Rep h η→hget h b=.live ro l.length cs→(∀i,i<l.length→cget cs i=l.getD i und)→∃h',k ro l.length cs h=.val v h'∧Rep h' η') :
  HV (fun h=>withB h b fun ro sz cs=>k ro sz cs h) η v η':=by
 obtain⟨k0,e⟩:=e
 refine⟨max k0 (b+1),fun hd h r=>?_⟩
 have hm:b<mostBlocks:=lt_most' (show b<max k0 (b+1) by omega) hd
 have q:=r.blk b hm
 rw[hb]at q
 obtain⟨cs,q1,q2⟩:=q
 obtain⟨h',e1,e2⟩:=e (by omega) hm h cs r q1 q2
 refine⟨h',?_,e2⟩
 show blkk (hget h b) _=_
 rw[q1]
 exact e1
theorem setB_val [Deep] {h:H} {b:Nat} {x:Blk} {k:H→RV}:setB h b x k=k ⟨h.nx,trSet Deep.d b h.m x⟩:=setB_eq b x k
theorem setsL_length (r:List AV):∀(l:List AV) (i:Nat),(setsL l i r).length=l.length:=by
 induction r with
 |nil=>intros;rfl
 |cons a r ih=>intro l i;show(setsL (l.set i a) (i+1) r).length=_;rw[ih,List.length_set]
theorem setsL_get (r:List AV):∀(l:List AV) (i j:Nat),j<l.length→(setsL l i r).getD j und=if i≤j∧j<i+r.length then r.getD (j-i) und else l.getD j und:=by
 induction r with
 |nil=>intro l i j hj;rw[if_neg (by simp)];rfl
 |cons a r ih =>
  intro l i j hj
  show(setsL (l.set i a) (i+1) r).getD j und=_
  rw[ih _ _ _ (by rw[List.length_set];exact hj)]
  by_cases h1:i+1≤j∧j<i+1+r.length
  ·rw[if_pos h1,if_pos (by simp;omega)]
   obtain⟨d,hd⟩:∃d,j-i=d+1:=⟨j-i-1,by omega⟩
   rw[hd,show j-(i+1)=d from by omega];rfl
  ·rw[if_neg h1]
   by_cases h2:j=i
   ·subst h2
    rw[if_pos (by simp)]
    simp [List.getD_eq_getElem?_getD,List.getElem?_set,hj]
   ·rw[if_neg (by simp;omega),List.getD_eq_getElem?_getD,List.getElem?_set_ne (Ne.symm h2),List.getD_eq_getElem?_getD]
theorem RepB_sets {ro:Bool} {l:List AV} {cs:T AV} (q:∀i,i<l.length→cget cs i=l.getD i und) (off:Nat) (r:List AV):RepB (.live ro l.length (csetsD r cs off)) (.live ro (setsL l off r)):=by
 refine⟨csetsD r cs off,by rw[setsL_length],fun i hi=>?_⟩
 rw[setsL_length]at hi
 rw[cget_csets,setsL_get _ _ _ _ hi,q i hi]
theorem row_eq {l:List AV} {cs:T AV} (q:∀i,i<l.length→cget cs i=l.getD i und) {off n:Nat} (h:off+n≤l.length):((List.range n).map fun j=>cget cs (off+j))=(l.drop off).take n:=by
 apply List.ext_getElem
 ·simp;omega
 ·intro i h1 h2
  simp at h1
  simp only[List.getElem_map,List.getElem_range,List.getElem_take,List.getElem_drop]
  rw[q _ (by omega),List.getD_eq_getElem?_getD,List.getElem?_eq_getElem (by omega)];rfl
theorem cellsK_eq [Deep] {x:AV} {l:List AV} (h:cellsV x=some l) (k:List AV→RV):cellsK x k=k l:=by
 cases x<;>first|(cases h;rfl)|cases h
theorem spliceS_eq {cs l:List AV} {off n:Nat} (hl:l.length=n) (h:off+n≤cs.length):splice cs off l n=setsL cs off l:=by
 unfold splice
 rw[lapp_eq,lapp_eq,ltake_eq,ldrop_eq]
 show cs.take off++(l++cs.drop (off+n))=_
 apply List.ext_getElem
 ·rw[setsL_length];simp;omega
 ·intro i h1 h2
  have h3:i<cs.length:=by rw[setsL_length]at h2;exact h2
  have e:(setsL cs off l)[i]=(setsL cs off l).getD i und:=by rw[List.getD_eq_getElem?_getD,List.getElem?_eq_getElem h2];rfl
  rw[e,setsL_get _ _ _ _ h3]
  by_cases c1:i<off
  ·rw[if_neg (by omega),List.getElem_append_left (by simp;omega),List.getElem_take,List.getD_eq_getElem?_getD,List.getElem?_eq_getElem h3];rfl
  ·rw[List.getElem_append_right (by simp;omega)]
   have hm:min off cs.length=off:=by omega
   by_cases c2:i<off+l.length
   ·rw[if_pos ⟨by omega,c2⟩,List.getElem_append_left (by simp;omega),List.getD_eq_getElem?_getD,List.getElem?_eq_getElem (by omega)]
    simp [hm]
   ·rw[if_neg (by omega),List.getElem_append_right (by simp;omega),List.getElem_drop,List.getD_eq_getElem?_getD,List.getElem?_eq_getElem h3]
    simp only[Option.getD_some,List.length_take,hm]
    congr 1
    omega
theorem lrep_eq {α:Type} (n:Nat) (l:List α):lrep n l=(List.replicate n l).flatten:=by
 induction n with
 |zero=>rfl
 |succ n ih=>show lapp l (lrep n l)=_;rw[lapp_eq,ih];simp [List.replicate_succ]
theorem bytesOf_eq [Deep]:∀{l:List AV} {m:Nat},bytesN l=some m→∀k:Nat→RV,bytesOf l k=k m
 | [],m,h,k=>by cases h;rfl
 |x::l,m,h,k=>by
  cases x<;>first|(cases h;done)|skip
  rename_i kd n
  cases kd<;>first|(cases h;done)|skip
  unfold bytesN at h
  cases hq:bytesN l with
  |none=>rw[hq]at h;cases h
  |some m' =>
   rw[hq]at h
   cases h
   show bytesOf l (fun m=>forceN (Nat.add n (Nat.mul 256 m)) k)=_
   rw[bytesOf_eq hq,forceN_eq];rfl
section
variable {P:Program} {η η':HN} {v:AV}
theorem okO_ok {o:Option AV} (e:okO o η=.ok v η'):o=some v∧η'=η:=by
 cases o with
 |none=>cases e
 |some x=>cases e;exact⟨rfl,rfl⟩
theorem beqD (a b:Nat):Nat.beq a b=(a == b):=by rw[Bool.eq_iff_iff,beq_true];simp
theorem intG_ok [Deep] {op:BinOp} {k k':IntKind} {a b:Nat} (e:intN op k a k' b=some v) (h:H):(intG op).f k a k' b h=.val v h:=by
 cases op<;>simp only[intN,Option.ite_none_right_eq_some,Option.some.injEq]at e
 case shl=>obtain⟨e1,rfl⟩:=e;show ifB (nneg k' b) (mkI k (shlN k a (minN b (bitsN k))) h) (.fail 4)=_;rw[e1,ifB_true,mkI_eq,minN_eq]
 case shr=>obtain⟨e1,rfl⟩:=e;show ifB (nneg k' b) (mkI k (shrN k a (minN b (bitsN k))) h) (.fail 4)=_;rw[e1,ifB_true,mkI_eq,minN_eq]
 case quo =>
  obtain⟨e1,e⟩:=e
  split at e
  ·cases e
  ·rename_i hb
   cases e
   show ifB (keq k k') (ifB (Nat.beq b 0) (.fail 2) (mkI k (quoN k a b) h)) (.fail 10)=_
   rw[e1,ifB_true,beq_false.2 hb,ifB_false,mkI_eq]
 case rem =>
  obtain⟨e1,e⟩:=e
  split at e
  ·cases e
  ·rename_i hb
   cases e
   show ifB (keq k k') (ifB (Nat.beq b 0) (.fail 2) (mkI k (remN k a b) h)) (.fail 10)=_
   rw[e1,ifB_true,beq_false.2 hb,ifB_false,mkI_eq]
 case eql=>obtain⟨e1,rfl⟩:=e;show ifB (keq k k') (mkB (Nat.beq a b) h) (RV.fail 10)=_;rw[e1,ifB_true,mkB_eq,beqD]
 case neq=>obtain⟨e1,rfl⟩:=e;show ifB (keq k k') (mkB (!Nat.beq a b) h) (RV.fail 10)=_;rw[e1,ifB_true,mkB_eq,beqD]
 all_goals
  obtain⟨e1,rfl⟩:=e
  show ifB (keq k k') _ (RV.fail 10)=_
  rw[e1,ifB_true]
  first
   |exact mkI_eq _ _ _
   |exact mkB_eq _ _
theorem strG_ok [Deep] {op:BinOp} {n w m u:Nat} (e:strN op n w m u=some v) (h:H):(strOp op).f n w m u h=.val v h:=by
 cases op<;>simp only[strN,Option.ite_none_right_eq_some,Option.some.injEq,reduceCtorEq]at e
 case add=>obtain⟨e1,rfl⟩:=e;show ifB (Nat.ble (n+m) 9223372036854775807) (mkS (n+m) (strCat n w u) h) (.fail 3)=_;rw[ble_true.2 e1,ifB_true,mkS_eq]
 all_goals subst e;exact mkB_eq _ _
theorem eqG_ok [Deep] {op:BinOp} {t:TypeId} {nl:Bool} {x y:AV} (e:eqN P op t nl x y=some v) (h:H):(eqG P op t nl).f x y h=.val v h:=by
 unfold eqN at e
 split at e
 ·rename_i hg
  unfold eqG
  rw[hg,ifB_true]
  cases op<;>simp only[reduceCtorEq]at e
  case eql =>
   show eqRes false ((eqB P t).f x y) h=_
   unfold boolO at e
   cases hq:(eqB P t).f x y with
   |none=>rw[hq]at e;cases e
   |some b=>rw[hq]at e;cases e;exact mkB_eq _ _
  case neq =>
   show eqRes true ((eqB P t).f x y) h=_
   unfold boolO at e
   cases hq:(eqB P t).f x y with
   |none=>rw[hq]at e;cases e
   |some b=>rw[hq]at e;cases e;exact mkB_eq _ _
 ·cases e
theorem binN_ok [Deep] {op:BinOp} {t:TypeId} {nl:Bool} {x y:AV} (e:binN P op t nl x y=some v) (h:H):(binA P op t nl).f x y h=.val v h:=by
 unfold binN at e
 split at e
 ·exact intG_ok e h
 ·exact strG_ok e h
 all_goals first|exact eqG_ok e h|cases e
theorem unN_ok [Deep] {op:UnOp} {x:AV} (e:unN op x=some v) (h:H):(unA op).f x h=.val v h:=by
 unfold unN at e
 split at e
 ·cases e;exact mkI_eq _ _ _
 ·cases e;exact mkI_eq _ _ _
 ·cases e;exact mkB_eq _ _
 ·cases e
theorem load_hv {t:TypeId} {x:AV} (e:ldP (tyOf P t) x η=.ok v η'):HV (fun h=>(loadA P t).f x h) η v η':=by
 unfold ldP at e
 split at e
 ·rename_i s by' agg b off ht
  unfold ldB at e
  split at e
  ·rename_i ro l hb
   cases agg with
   |true =>
    dsimp only at e
    split at e
    ·rename_i hle
     cases e
     refine HV.eq (fun h=>?_) (HV.blk (k:=fun _ sz cs h=>ifB (Nat.ble (Nat.add off s) sz) (cgets cs s off fun l=>.val (.agg l) h) (.fail 31)) hb ⟨0,fun _ _ h cs r h1 h2=>⟨h,?_,r⟩⟩)
     ·unfold loadA;rw[ht];dsimp only;rw[forceN_eq];rfl
     ·show ifB (Nat.ble (off+s) l.length) _ _=_
      rw[ble_true.2 hle,ifB_true,cgets_eq,row_eq h2 hle]
    ·cases e
   |false =>
    obtain⟨e1,rfl⟩:=okO_ok (show okO l[off]? η=.ok v η' from e)
    obtain⟨hlt,hv⟩:=List.getElem?_eq_some_iff.1 e1
    refine HV.eq (fun h=>?_) (HV.blk (k:=fun _ sz cs h=>ifB (Nat.ble (Nat.succ off) sz) (mkV (cget cs off) h) (.fail 31)) hb ⟨0,fun _ _ h cs r h1 h2=>⟨h,?_,r⟩⟩)
    ·unfold loadA;rw[ht];dsimp only;rw[forceN_eq];rfl
    ·show ifB (Nat.ble (Nat.succ off) l.length) _ _=_
     rw[ble_true.2 hlt,ifB_true,mkV_eq,h2 off hlt,List.getD_eq_getElem?_getD,e1];rfl
  ·cases e
 ·cases e
theorem store_hv {t:TypeId} {x y:AV} (e:stP (tyOf P t) x y η=.ok v η'):HV (fun h=>(storeA P t).f x y h) η v η':=by
 unfold stP at e
 split at e
 ·rename_i s by' agg b off ht
  unfold stV at e
  split at e
  ·rename_i cs hc
   unfold stB at e
   split at e
   ·rename_i l hb
    split at e
    ·rename_i hle
     cases e
     refine HV.eq (fun h=>?_) (HV.blk (k:=fun ro sz c h=>ifB ro (.fail 32) (ifB (Nat.beq (llen cs) s) (ifB (Nat.ble (Nat.add off s) sz) (csets cs c off fun c=>setB h b (.live false sz c) fun h=>.val und h) (.fail 32)) (.fail 32))) hb ⟨0,fun _ hm h c r h1 h2=>⟨_,?_,r.put hm (RepB_sets h2 off cs)⟩⟩)
     ·unfold storeA;rw[ht];dsimp only;rw[forceN_eq];show cellsK y _=_;rw[cellsK_eq hc];rfl
     ·show ifB (Nat.beq (llen cs) s) _ _=_
      rw[llen_eq,beq_true.2 hle.1,ifB_true,show off.add s=off+s from rfl,ble_true.2 hle.2,ifB_true,csets_eq,setB_val]
    ·cases e
   ·cases e
  ·cases e
 ·cases e
theorem new_hv {o:Option (List AV)} {l:List AV} (ho:o=some l) (e:newN o η=.ok v η'):HV (fun h=>newBlk h l fun b h=>.val (.ptr b 0) h) η v η':=by
 subst ho;cases e;exact HV.new fun h=>rfl
theorem idxN_ok {i:AV} {k:Nat→RES} (e:idxN i k=.ok v η'):∃kd a,i=.int kd a∧nneg kd a=true∧k a=.ok v η':=by
 unfold idxN at e
 split at e
 ·split at e
  ·rename_i kd a h;exact⟨kd,a,rfl,h,e⟩
  ·cases e
 ·cases e
theorem intIdx_eq [Deep] {kd:IntKind} {a:Nat} (h:nneg kd a=true) (k:Nat→RV):intIdx (.int kd a) k=k a:=by show ifB (nneg kd a) (k a) _=_;rw[h];rfl
theorem fdAt_ok {td:TD} {f:Nat} {fd:FD} (h:fdAt td f=some fd):∃fs,td=.struct fs∧fs[f]?=some fd:=by
 cases td<;>first|cases h|exact⟨_,rfl,h⟩
end
end Go.Eng
namespace Go.Eng
set_option autoImplicit false
section
variable {P:Program} {η η':HN} {v:AV} {φ:FN}
theorem opd_eq {fr:Fr} (hf:FrR fr φ) (x:Operand):(operandR P x).f fr=opd φ x:=by
 cases x with
 |tmp t=>exact hf t
 |const c=>show(match cv c with|some a=>(⟨fun _=>a⟩:Bx (Fr→AV))|none=>⟨fun _=>und⟩).f fr=cvD (cv c);cases cv c<;>rfl
 |global g=>rfl
 |func f=>rfl
theorem opdO_eq {fr:Fr} (hf:FrR fr φ) (x:Option Operand):(ogetO P x).f fr=opdO φ x:=by
 cases x with
 |none=>rfl
 |some x=>exact congrArg some (opd_eq hf x)
theorem ogetsN_eq [Deep] {fr:Fr} (hf:FrR fr φ):∀(l:List Operand) (k:List AV→RV),(ogets P l).f fr k=k (l.map (opd φ))
 | [],k=>rfl
 |x::l,k=>by
  show forceV ((operandR P x).f fr) (fun a=>(ogets P l).f fr fun r=>k (a::r))=_
  rw[forceV_eq,ogetsN_eq hf l,opd_eq hf];rfl
def EV (E:∀ [Deep],E) (φ:FN) (η:HN) (v:AV) (η':HN):Prop:=∃k0,∀ [Deep],k0≤Deep.d→∀call fr h,FrR fr φ→Rep h η→∃h',E.f call fr h=.val v h'∧Rep h' η'
theorem EV.of {E:∀ [Deep],E} {g:∀ [Deep],H→RV} (e:∀ [Deep] (call:Caller) (fr:Fr) (h:H),FrR fr φ→E.f call fr h=g h) (k:HV g η v η'):EV E φ η v η':=by
 obtain⟨k0,k⟩:=k
 exact⟨k0,fun hd call fr h hf r=>by rw[e call fr h hf];exact k hd h r⟩
theorem EV.pure {E:∀ [Deep],E} (e:∀ [Deep] (call:Caller) (fr:Fr) (h:H),FrR fr φ→E.f call fr h=.val v h):EV E φ η v η :=
 EV.of (g:=fun h=>.val v h) e (HV.pure fun _=>rfl)
theorem fieldAddr_ev {t:TypeId} {x:Operand} {f:Nat} (e:fldAN (fdAt (tdOf P t) f) (opd φ x) η=.ok v η'):EV (eFieldAddr P t x f) φ η v η':=by
 unfold fldAN at e
 split at e
 ·rename_i fd b off h1 h2
  split at e
  ·cases e
  ·rename_i h3
   cases e
   obtain⟨fs,h4,h5⟩:=fdAt_ok h1
   refine EV.pure fun call fr h hf=>?_
   unfold eFieldAddr
   rw[h4]
   dsimp only
   rw[lget?_eq,h5]
   dsimp only
   rw[beq_false.2 h3,ifB_false,forceN_eq]
   dsimp only
   rw[opd_eq hf,h2]
   show forceN (Nat.add off fd.off) _=_
   rw[forceN_eq];rfl
 ·cases e
theorem field_ev {t:TypeId} {x:Operand} {f:Nat} (e:fldN (fdAt (tdOf P t) f) (opd φ x) η=.ok v η'):EV (eField P t x f) φ η v η':=by
 unfold fldN at e
 split at e
 ·rename_i fd cs h1 h2
  obtain⟨h3,rfl⟩:=okO_ok e
  obtain⟨fs,h4,h5⟩:=fdAt_ok h1
  refine EV.pure fun call fr h hf=>?_
  unfold eField
  rw[h4]
  dsimp only
  rw[lget?_eq,h5]
  dsimp only
  rw[opd_eq hf,h2]
  show osome 61 (partO fd.agg fd.size cs fd.off) _=_
  rw[h3]
  exact mkV_eq _ _
 ·cases e
theorem indexAddr_ev {t:TypeId} {x i:Operand} (e:iaN (tdOf P t) (opd φ x) (opd φ i) η=.ok v η'):EV (eIndexAddr P t x i) φ η v η':=by
 unfold iaN at e
 split at e
 ·rename_i el s by' b off len cp h1 h2
  obtain⟨kd,a,h3,h4,e⟩:=idxN_ok e
  split at e
  ·rename_i h5
   cases e
   refine EV.pure fun call fr h hf=>?_
   unfold eIndexAddr indexAddrA
   dsimp only
   rw[h1]
   dsimp only
   rw[opd_eq hf,opd_eq hf,h2,h3,intIdx_eq h4]
   show ifB (Nat.ble (Nat.succ a) len) (forceN (Nat.add off (Nat.mul a s)) _) _=_
   rw[ble_true.2 h5,ifB_true,forceN_eq];rfl
  ·cases e
 ·rename_i n el s ag b off h1 h2
  obtain⟨kd,a,h3,h4,e⟩:=idxN_ok e
  split at e
  ·rename_i h5
   cases e
   refine EV.pure fun call fr h hf=>?_
   unfold eIndexAddr indexAddrA
   dsimp only
   rw[h1]
   dsimp only
   rw[opd_eq hf,opd_eq hf,h2,h3,intIdx_eq h4]
   show ifB (Nat.ble (Nat.succ a) n) (forceN (Nat.add off (Nat.mul a s)) _) _=_
   rw[ble_true.2 h5,ifB_true,forceN_eq];rfl
  ·cases e
 ·cases e
theorem index_ev {t:TypeId} {x i:Operand} (e:ixN (tdOf P t) (opd φ x) (opd φ i) η=.ok v η'):EV (eIndex P t x i) φ η v η':=by
 unfold ixN at e
 split at e
 ·rename_i n s h1 h2
  obtain⟨kd,a,h3,h4,e⟩:=idxN_ok e
  split at e
  ·rename_i h5
   cases e
   refine EV.pure fun call fr h hf=>?_
   unfold eIndex indexA
   dsimp only
   rw[h1]
   dsimp only
   rw[opd_eq hf,opd_eq hf,h2,h3,intIdx_eq h4]
   show ifB (Nat.ble (Nat.succ a) n) _ _=_
   rw[ble_true.2 h5,ifB_true,mkI_eq]
  ·cases e
 ·rename_i n el s ag cs h1 h2
  obtain⟨kd,a,h3,h4,e⟩:=idxN_ok e
  split at e
  ·rename_i h5
   obtain⟨h6,rfl⟩:=okO_ok e
   refine EV.pure fun call fr h hf=>?_
   unfold eIndex indexA
   dsimp only
   rw[h1]
   dsimp only
   rw[opd_eq hf,opd_eq hf,h2,h3,intIdx_eq h4]
   show ifB (Nat.ble (Nat.succ a) n) (osome 34 (partO ag s cs (Nat.mul a s)) _) _=_
   rw[ble_true.2 h5,ifB_true,show Nat.mul a s=a*s from rfl,h6]
   exact mkV_eq _ _
  ·cases e
 ·cases e
theorem extract_ev {x:Operand} {i:Nat} (e:exN (opd φ x) i η=.ok v η'):EV (eExtract P x i) φ η v η':=by
 unfold exN at e
 split at e
 ·rename_i l h1
  obtain⟨h2,rfl⟩:=okO_ok e
  refine EV.pure fun call fr h hf=>?_
  unfold eExtract
  dsimp only
  rw[opd_eq hf,h1]
  show osome 89 (lget? l i) _=_
  rw[lget?_eq,h2]
  exact mkV_eq _ _
 ·cases e
theorem fill_eq [Deep] {fr:Fr} (hf:FrR fr φ) {place:Nat→Option (Nat×Nat)}:∀{ps:List (Nat×Operand)} {cs l:List AV} (k:List AV→RV),fillN φ place ps cs=some l→(fillA P place ps).f fr cs k=k l
 | [],cs,l,k,e=>by cases e;rfl
 |p::ps,cs,l,k,e=>by
  unfold fillN at e
  split at e
  ·rename_i o s r h1 h2
   split at e
   ·rename_i h3
    show osome 28 (place p.1) (fun os=>forceV ((operandR P p.2).f fr) fun a=>cellsK a fun l=>ifB (Nat.beq (llen l) os.2) (ifB (Nat.ble (Nat.add os.1 os.2) (llen cs)) (forceL (splice cs os.1 l os.2) fun cs=>(fillA P place ps).f fr cs k) (.fail 28)) (.fail 28))=_
    rw[h1]
    show forceV ((operandR P p.2).f fr) _=_
    rw[forceV_eq,opd_eq hf,cellsK_eq h2]
    dsimp only
    rw[llen_eq,llen_eq,beq_true.2 h3.1,ifB_true,show Nat.add o s=o+s from rfl,ble_true.2 h3.2,ifB_true,forceL_eq,spliceS_eq h3.1 h3.2]
    exact fill_eq hf k e
   ·cases e
  ·cases e
theorem aggO_ok {o:Option (List AV)} (e:aggO o η=.ok v η'):∃l,o=some l∧v=.agg l∧η'=η:=by
 cases o with
 |none=>cases e
 |some l=>cases e;exact⟨l,rfl,rfl,rfl⟩
theorem build_ev {t:TypeId} {ps:Array (Nat×Operand)} (e:bldN (tdOf P t) (zeroT P t) φ ps.toList η=.ok v η'):EV (eBuild P t ps) φ η v η':=by
 unfold bldN at e
 split at e
 ·rename_i n el s ag z h1 h2
  obtain⟨l,h3,rfl,rfl⟩:=aggO_ok e
  refine EV.pure fun call fr h hf=>?_
  unfold eBuild
  rw[h2]
  dsimp only
  rw[h1]
  exact fill_eq hf _ h3
 ·rename_i fs z h1 h2
  obtain⟨l,h3,rfl,rfl⟩:=aggO_ok e
  refine EV.pure fun call fr h hf=>?_
  unfold eBuild
  rw[h2]
  dsimp only
  rw[h1]
  exact fill_eq hf _ h3
 ·cases e
theorem slO_ok {n:Nat} {o:Option (List AV)} (e:slO n o η=.ok v η'):∃l,o=some l∧v=.slice η.nx 0 n (.kn n)∧η'=η.new (.live false l):=by
 cases o with
 |none=>cases e
 |some l=>cases e;exact⟨l,rfl,rfl,rfl⟩
theorem buildSlice_ev {t:TypeId} {n:Nat} {ps:Array (Nat×Operand)} (e:bldS P (tdOf P t) n φ ps.toList η=.ok v η'):EV (eBuildSlice P t n ps) φ η v η':=by
 unfold bldS at e
 split at e
 ·rename_i el s by' h1
  split at e
  ·rename_i h2
   split at e
   ·rename_i h3
    obtain⟨l,h4,rfl,rfl⟩:=slO_ok e
    cases h4
    refine EV.of (g:=fun h=>newBlk h [] fun b h=>.val (.slice b 0 n (.kn n)) h) (fun call fr h hf=>?_) (HV.new fun h=>rfl)
    unfold eBuildSlice
    rw[h1]
    dsimp only
    rw[show Nat.mul n s=n*s from rfl,beq_true.2 h2,ifB_true,h3]
   ·cases e
  ·rename_i h2
   split at e
   ·rename_i h3
    split at e
    ·rename_i z h4
     obtain⟨l,h5,rfl,rfl⟩:=slO_ok e
     refine EV.of (g:=fun h=>newBlk h l fun b h=>.val (.slice b 0 n (.kn n)) h) (fun call fr h hf=>?_) (HV.new fun h=>rfl)
     unfold eBuildSlice
     rw[h1]
     dsimp only
     rw[show Nat.mul n s=n*s from rfl,beq_false.2 h2,ifB_false,ble_true.2 h3,ifB_true,h4]
     dsimp only
     rw[lrep_eq]
     exact fill_eq hf _ h5
    ·cases e
   ·cases e
 ·cases e
theorem mkS_ev {t:TypeId} {l c:Operand} (e:mkSN P (tdOf P t) (opd φ l) (opd φ c) η=.ok v η'):EV (eMkSlice P t l c) φ η v η':=by
 unfold mkSN at e
 split at e
 ·rename_i el s bytes h1
  split at e
  ·rename_i z h2
   obtain⟨kd,n,h3,h4,e⟩:=idxN_ok e
   obtain⟨kd',m,h5,h6,e⟩:=idxN_ok e
   split at e
   ·rename_i h7
    cases e
    refine EV.of (g:=fun h=>newBlk h (repL m (cellsA z)) fun b h=>.val (.slice b 0 n (.kn m)) h) (fun call fr h hf=>?_) (HV.new fun h=>rfl)
    unfold eMkSlice
    rw[h1]
    dsimp only
    rw[h2]
    dsimp only
    rw[opd_eq hf,opd_eq hf,h3,h5,intIdx_eq h4,intIdx_eq h6,ble_true.2 h7.1,ifB_true,beq_false.2 h7.2.1,ifB_false]
    show ifB (Nat.ble (m*bytes) 140737488355328) _ _=_
    rw[ble_true.2 h7.2.2,ifB_true,forceL_eq,lrep_eq];rfl
   ·cases e
  ·cases e
 ·cases e
theorem bndN_ok {o:Option AV} {d:Nat} {k:Nat→RES} (e:bndN o d k=.ok v η'):∃n,k n=.ok v η'∧∀ [Deep] (k':Nat→RV),bnd o d k'=k' n:=by
 cases o with
 |none=>exact⟨d,e,fun _=>rfl⟩
 |some x =>
  obtain⟨kd,a,h1,h2,h3⟩:=idxN_ok e
  exact⟨a,h3,fun k'=>by subst h1;exact intIdx_eq h2 k'⟩
theorem bndsN_ok {lo hi:Option AV} {len top:Nat} {k:Nat→Nat→RES} (e:bndsN lo hi len top k=.ok v η'):∃l hh,k l hh=.ok v η'∧∀ [Deep] (k':Nat→Nat→RV),bnds lo hi len top k'=k' l hh:=by
 obtain⟨l,e,e1⟩:=bndN_ok e
 obtain⟨hh,e,e2⟩:=bndN_ok e
 split at e
 ·rename_i h1
  refine⟨l,hh,e,fun k'=>?_⟩
  unfold bnds
  rw[e1,e2,ble_true.2 h1.1,ifB_true,ble_true.2 h1.2,ifB_true]
 ·cases e
theorem slToN_ok {b off l hh c s:Nat} (e:slToN b off l hh c s η=.ok v η'):η'=η∧∀ [Deep] (h:H),slTo b off l hh c s h=.val v h:=by
 unfold slToN at e
 split at e
 ·rename_i h1
  cases e
  refine⟨rfl,fun h=>?_⟩
  unfold slTo
  rw[beq_true.2 h1];rfl
 ·rename_i h1
  cases e
  refine⟨rfl,fun h=>?_⟩
  unfold slTo
  rw[beq_false.2 h1,ifB_false,forceN_eq,forceN_eq,forceN_eq];rfl
theorem slHN_ok {lo hi:Option AV} {b off len:Nat} {cap:Cp} {r:RES} (e:slHN lo hi b off len cap η r=.ok v η') :
  (η'=η∧∀ [Deep] (h:H) (R:H→RV),slHd b off len cap lo hi none R h=.val v h)∨(r=.ok v η'∧∀ [Deep] (h:H) (R:H→RV),slHd b off len cap lo hi none R h=R h):=by
 unfold slHN at e
 split at e
 ·rename_i y
  obtain⟨kd,a,rfl,h3,e⟩:=idxN_ok e
  split at e
  ·rename_i h4
   cases e
   refine .inl ⟨rfl,fun h R=>?_⟩
   refine(intIdx_eq h3 fun m=>ifB (Nat.ble m len) (.val (.slice b off m cap) h) (R h)).trans ?_
   rw[ble_true.2 h4,ifB_true]
  ·rename_i h4
   refine .inr ⟨e,fun h R=>?_⟩
   refine(intIdx_eq h3 fun m=>ifB (Nat.ble m len) (.val (.slice b off m cap) h) (R h)).trans ?_
   have:Nat.ble a len=false:=by
    cases hq:Nat.ble a len with
    |false=>rfl
    |true=>exact absurd (ble_true.1 hq) h4
   rw[this,ifB_false]
 ·rename_i h1
  refine .inr ⟨e,fun h R=>?_⟩
  cases lo with
  |some l=>rfl
  |none =>
   cases hi with
   |none=>rfl
   |some y=>exact(h1 y rfl rfl).elim
theorem slN_ok {t:TypeId} {x:AV} {lo hi mx:Option AV} (e:slN (tdOf P t) x lo hi mx η=.ok v η'):η'=η∧∀ [Deep] (h:H),(sliceA P t).f x lo hi mx h=.val v h:=by
 unfold slN at e
 split at e
 ·rename_i n s h1
  obtain⟨l,hh,e,e1⟩:=bndsN_ok e
  cases e
  refine⟨rfl,fun h=>?_⟩
  unfold sliceA
  rw[h1]
  exact(e1 fun l hh=>mkS (hh-l) (strCut s l (hh-l)) h).trans (mkS_eq _ _ _)
 ·rename_i el s by' h1
  obtain⟨l,hh,e,e1⟩:=bndsN_ok e
  cases e
  refine⟨rfl,fun h=>?_⟩
  unfold sliceA
  rw[h1]
  exact e1 fun _ _=>.val .nilslice h
 ·rename_i el s by' m h1
  obtain⟨kd,a,rfl,h3,e⟩:=idxN_ok e
  split at e
  ·rename_i h4
   obtain⟨l,hh,e,e1⟩:=bndsN_ok e
   cases e
   refine⟨rfl,fun h=>?_⟩
   unfold sliceA
   rw[h1]
   refine(intIdx_eq h3 fun m=>ifB (Nat.beq m 0) (bnds lo hi 0 0 fun _ _=>.val .nilslice h) (.fail 26)).trans ?_
   rw[beq_true.2 h4,ifB_true]
   exact e1 fun _ _=>.val .nilslice h
  ·cases e
 ·rename_i el s by' b off len c h1
  have d1:∀ [Deep] (h:H),(sliceA P t).f (.slice b off len (.kn c)) lo hi none h=slHd b off len (.kn c) lo hi none (fun h=>slCap b off len c s lo hi none h) h:=fun h=>by
   unfold sliceA
   rw[h1];rfl
  rcases slHN_ok e with ⟨rfl,e0⟩|⟨e,e0⟩
  ·exact⟨rfl,fun h=>(d1 h).trans (e0 h _)⟩
  obtain⟨l,hh,e,e1⟩:=bndsN_ok e
  obtain⟨rfl,e2⟩:=slToN_ok e
  refine⟨rfl,fun h=>(d1 h).trans ((e0 h _).trans ?_)⟩
  exact(e1 fun l hh=>slTo b off l hh c s h).trans (e2 h)
 ·rename_i el s by' b off len c m h1
  obtain⟨kd,a,rfl,h3,e⟩:=idxN_ok e
  split at e
  ·rename_i h4
   obtain⟨l,hh,e,e1⟩:=bndsN_ok e
   obtain⟨rfl,e2⟩:=slToN_ok e
   refine⟨rfl,fun h=>?_⟩
   unfold sliceA
   rw[h1]
   refine(intIdx_eq h3 fun m=>ifB (Nat.ble m c) (bnds lo hi len m fun l hh=>slTo b off l hh m s h) (.fail 26)).trans ?_
   rw[ble_true.2 h4,ifB_true,e1,e2]
  ·cases e
 ·rename_i el s by' b off len es h1
  have d1:∀ [Deep] (h:H),(sliceA P t).f (.slice b off len (.un es)) lo hi none h=slHd b off len (.un es) lo hi none (fun h=>slUnk b off len es s lo hi none h) h:=fun h=>by
   unfold sliceA
   rw[h1];rfl
  rcases slHN_ok e with ⟨rfl,e0⟩|⟨e,e0⟩
  ·exact⟨rfl,fun h=>(d1 h).trans (e0 h _)⟩
  split at e
  ·rename_i h2
   obtain⟨l,hh,e,e1⟩:=bndsN_ok e
   cases e
   refine⟨rfl,fun h=>(d1 h).trans ((e0 h _).trans ?_)⟩
   show ifB (Nat.beq es s) (bnds lo hi len len fun l hh=>forceN (Nat.add off (Nat.mul l s)) fun o=>forceN (Nat.sub hh l) fun n=>.val (.slice b o n (.un s)) h) (.fail 26)=_
   rw[beq_true.2 h2,ifB_true,e1,forceN_eq,forceN_eq];rfl
  ·cases e
 ·rename_i el s by' b off len es m h1
  split at e
  ·rename_i h2
   obtain⟨kd,a,rfl,h3,e⟩:=idxN_ok e
   split at e
   ·rename_i h4
    obtain⟨l,hh,e,e1⟩:=bndsN_ok e
    obtain⟨rfl,e2⟩:=slToN_ok e
    refine⟨rfl,fun h=>?_⟩
    unfold sliceA
    rw[h1]
    show ifB (Nat.beq es s) (intIdx (.int kd a) fun m=>ifB (Nat.ble m len) (bnds lo hi len m fun l hh=>slTo b off l hh m s h) (.fail 26)) (.fail 26)=_
    rw[beq_true.2 h2,ifB_true,intIdx_eq h3,ble_true.2 h4,ifB_true,e1,e2]
   ·cases e
  ·cases e
 ·rename_i n el s ag b off h1
  obtain⟨l,hh,e,e1⟩:=bndsN_ok e
  obtain⟨rfl,e2⟩:=slToN_ok e
  refine⟨rfl,fun h=>?_⟩
  unfold sliceA
  rw[h1]
  exact(e1 fun l hh=>slTo b off l hh n s h).trans (e2 h)
 ·cases e
theorem slice_ev {t:TypeId} {x:Operand} {lo hi mx:Option Operand} (hn:noHi hi mx=false) (e:slN (tdOf P t) (opd φ x) (opdO φ lo) (opdO φ hi) (opdO φ mx) η=.ok v η'):EV (eSlice P t x lo hi mx) φ η v η':=by
 obtain⟨rfl,e1⟩:=slN_ok e
 refine EV.pure fun call fr h hf=>?_
 unfold eSlice
 rw[hn,ifB_false]
 dsimp only
 rw[opd_eq hf,opdO_eq hf,opdO_eq hf,opdO_eq hf]
 exact e1 h
end
end Go.Eng
namespace Go.Eng
set_option autoImplicit false
section
variable {P:Program} {η η':HN} {v:AV} {φ:FN}
theorem lenI_ok {n:Nat} (e:lenI n η=.ok v η'):η'=η∧∀ [Deep] (h:H),mkLen n h=.val v h:=by
 unfold lenI at e
 split at e
 ·rename_i h1
  cases e
  exact⟨rfl,fun h=>by unfold mkLen;rw[ble_true.2 h1];rfl⟩
 ·cases e
theorem lenN_ok {t:TypeId} {x:AV} (e:lenN (tdOf P t) x η=.ok v η'):η'=η∧∀ [Deep] (h:H),(lenA P t).f x h=.val v h:=by
 unfold lenN at e
 split at e<;>first|(cases e;done)|skip
 all_goals
  rename_i h1
  obtain⟨rfl,e1⟩:=lenI_ok e
  refine⟨rfl,fun h=>?_⟩
  unfold lenA
  rw[h1]
  exact e1 h
theorem capN_ok {t:TypeId} {x:AV} (e:capN (tdOf P t) x η=.ok v η'):η'=η∧∀ [Deep] (h:H),(capA P t).f x h=.val v h:=by
 unfold capN at e
 split at e<;>first|(cases e;done)|skip
 all_goals
  rename_i h1
  obtain⟨rfl,e1⟩:=lenI_ok e
  refine⟨rfl,fun h=>?_⟩
  unfold capA
  rw[h1]
  exact e1 h
theorem rowN_ok {b off n:Nat} {r:List AV} (e:rowN (η.f b) off n=some r):∃ro l,η.f b=.live ro l∧off+n≤l.length∧r=(l.drop off).take n:=by
 unfold rowN at e
 split at e
 ·rename_i ro l hb
  split at e
  ·rename_i h1;cases e;exact⟨ro,l,hb,h1,rfl⟩
  ·cases e
 ·cases e
theorem apKn_hv {b off len s n c:Nat} {new:List AV} (e:apKn b off len s n c new (η.f b) η=.ok v η') :
  HV (fun h=>ifB (Nat.ble (Nat.add len n) c) (apIn b off len s n (.kn c) new h (.fail 39)) (apNew b off len s n new h)) η v η':=by
 unfold apKn at e
 split at e
 ·rename_i h1
  split at e
  ·rename_i l hb
   split at e
   ·rename_i h2
    cases e
    refine HV.eq (fun h=>?_) (HV.blk (k:=fun ro sz cs h=>ifB ro (.fail 36) (ifB (Nat.ble (Nat.add (Nat.add off (Nat.mul len s)) (Nat.mul n s)) sz) (forceN (Nat.add len n) fun m=>csets new cs (Nat.add off (Nat.mul len s)) fun cs=>setB h b (.live false sz cs) fun h=>.val (.slice b off m (.kn c)) h) (.fail 39)))
     hb ⟨0,fun _ hm h cs r h3 h4=>⟨_,?_,r.put hm (RepB_sets h4 (off+len*s) new)⟩⟩)
    ·rw[show Nat.add len n=len+n from rfl,ble_true.2 h1];rfl
    ·show ifB (Nat.ble (off+len*s+n*s) l.length) _ _=_
     rw[ble_true.2 h2,ifB_true,forceN_eq,csets_eq,setB_val];rfl
   ·cases e
  ·cases e
 ·rename_i h1
  unfold apNewN at e
  split at e
  ·rename_i old ho
   cases e
   obtain⟨ro,l,hb,h2,rfl⟩:=rowN_ok ho
   refine HV.eq (fun h=>?_) (HV.blk (k:=fun ro sz cs h=>ifB (Nat.ble (Nat.add off (Nat.mul len s)) sz) (cgets cs (Nat.mul len s) off fun old=>forceN (Nat.add len n) fun m=>newBlk h (lapp old new) fun b h=>.val (.slice b 0 m (.un s)) h) (.fail 35)) hb
    ⟨η.nx+1,fun hd _ h cs r h3 h4=>⟨⟨h.nx+1,trSet Deep.d h.nx h.m (blkOf ((l.drop off).take (len*s)++new))⟩,?_,r.new (lt_most' (Nat.lt_succ_self _) hd) (RepB_new _)⟩⟩)
   ·have:Nat.ble (Nat.add len n) c=false:=by
     cases hq:Nat.ble (Nat.add len n) c with
     |false=>rfl
     |true=>exact absurd (ble_true.1 hq) h1
    rw[this];rfl
   ·show ifB (Nat.ble (off+len*s) l.length) _ _=_
    rw[ble_true.2 h2,ifB_true,cgets_eq,forceN_eq,lapp_eq,newBlk_eq (by rw[r.nx];exact lt_most' (Nat.lt_succ_self _) hd),show Nat.mul len s=len*s from rfl,row_eq h4 h2,r.nx];rfl
  ·cases e
theorem RepB_app {l new:List AV} {cs:T AV} {off:Nat} (q:∀i,i<l.length→cget cs i=l.getD i und) (ho:off≤l.length) {m:Nat} (hm:m=(l.drop off++new).length) :
  RepB (.live false m (if off=0 then csetsD new cs l.length else csetsD (l.drop off++new) .e 0)) (.live false (l.drop off++new)):=by
 subst hm
 refine⟨_,rfl,fun i hi=>?_⟩
 by_cases h0:off=0
 ·subst h0
  rw[if_pos rfl,cget_csets]
  simp only[List.drop_zero,List.length_append]at hi ⊢
  by_cases h1:i<l.length
  ·rw[if_neg (by omega),q i h1,List.getD_eq_getElem?_getD,List.getD_eq_getElem?_getD,List.getElem?_append_left h1]
  ·rw[if_pos (by omega),List.getD_eq_getElem?_getD,List.getD_eq_getElem?_getD,List.getElem?_append_right (by omega)]
 ·rw[if_neg h0,cget_csets,if_pos (by omega),Nat.sub_zero]
theorem RepB_app2 {l new:List AV} {cs:T AV} {off k:Nat} (q:∀i,i<l.length→cget cs i=l.getD i und) (ho:off+k≤l.length) {m:Nat} (hm:m=((l.drop off).take k++new).length) :
  RepB (.live false m (if off=0 then csetsD new cs k else csetsD ((l.drop off).take k++new) .e 0)) (.live false ((l.drop off).take k++new)):=by
 subst hm
 refine⟨_,rfl,fun i hi=>?_⟩
 have hk:((l.drop off).take k).length=k:=by rw[List.length_take,List.length_drop];omega
 rw[List.length_append,hk]at hi
 by_cases h0:off=0
 ·subst h0
  rw[if_pos rfl,cget_csets]
  by_cases h1:i<k
  ·rw[if_neg (by omega),q i (by omega),List.getD_eq_getElem?_getD,List.getD_eq_getElem?_getD,List.getElem?_append_left (by rw[hk];exact h1),List.getElem?_take,if_pos h1,List.drop_zero]
  ·rw[if_pos (by omega),List.getD_eq_getElem?_getD,List.getD_eq_getElem?_getD,List.getElem?_append_right (by rw[hk];omega),hk]
 ·rw[if_neg h0,cget_csets,if_pos (by rw[List.length_append,hk];omega),Nat.sub_zero]
theorem apUn_hv {b off len s n:Nat} {new:List AV} (e:apUn b off len s n new (η.f b) η=.ok v η') :
  HV (fun h=>apIn b off len s n (.un s) new h (apMove b off len s n new h)) η v η':=by
 unfold apUn at e
 split at e
 ·rename_i l hb
  split at e
  ·rename_i h2
   cases e
   refine HV.eq (fun h=>?_) (HV.blk (k:=fun ro sz cs h=>ifB ro (.fail 36) (ifB (Nat.ble (Nat.add (Nat.add off (Nat.mul len s)) (Nat.mul n s)) sz) (forceN (Nat.add len n) fun m=>csets new cs (Nat.add off (Nat.mul len s)) fun cs=>setB h b (.live false sz cs) fun h=>.val (.slice b off m (.un s)) h) (apMove b off len s n new h)))
    hb ⟨0,fun _ hm h cs r h3 h4=>⟨_,?_,r.put hm (RepB_sets h4 (off+len*s) new)⟩⟩)
   ·rfl
   ·show ifB (Nat.ble (off+len*s+n*s) l.length) _ _=_
    rw[ble_true.2 h2,ifB_true,forceN_eq,csets_eq,setB_val];rfl
  ·rename_i h2
   split at e
   ·rename_i h3
    cases e
    refine HV.eq (fun h=>?_) (HV.blk (k:=fun ro sz cs h=>ifB ro (.fail 36) (ifB (Nat.ble (Nat.add (Nat.add off (Nat.mul len s)) (Nat.mul n s)) sz) (forceN (Nat.add len n) fun m=>csets new cs (Nat.add off (Nat.mul len s)) fun cs=>setB h b (.live false sz cs) fun h=>.val (.slice b off m (.un s)) h) (apMove b off len s n new h)))
     hb ⟨η.nx+1,fun hd hm h cs r h4 h5=>?_⟩)
    ·rfl
    have hn:η.nx<mostBlocks:=lt_most' (Nat.lt_succ_self _) hd
    have r1:=(r.put hm (x:=.dead) (y:=.none) trivial)
    have hlen:(len+n)*s=(l.drop off++new).length:=by
     rw[List.length_append,List.length_drop,h3.2,Nat.add_mul];omega
    refine⟨_,?_,r1.new hn (RepB_app (new:=new) h5 (by omega) hlen)⟩
    show ifB (Nat.ble (off+len*s+n*s) l.length) _ _=_
    have:Nat.ble (off+len*s+n*s) l.length=false:=by
     cases hq:Nat.ble (off+len*s+n*s) l.length with
     |false=>rfl
     |true=>exact absurd (ble_true.1 hq) h2
    rw[this,ifB_false]
    show blkk (hget h b) _=_
    rw[h4]
    show ifB (Nat.ble (off+len*s) l.length) _ _=_
    rw[ble_true.2 (Nat.le_of_eq h3.1),ifB_true,forceN_eq,forceN_eq]
    have fin:∀c:T AV,setB h b .dead (fun h=>newB h (.live false ((len+n)*s) c) fun b' h=>.val (.slice b' 0 (len+n) (.un s)) h)=RV.val (.slice η.nx 0 (len+n) (.un s)) ⟨h.nx+1,trSet Deep.d h.nx (trSet Deep.d b h.m .dead) (.live false ((len+n)*s) c)⟩:=fun c=>by
     rw[setB_val,newB_eq (h:=⟨h.nx,trSet Deep.d b h.m .dead⟩) (by show h.nx<_;rw[r.nx];exact hn)]
     show RV.val (.slice h.nx 0 (len+n) (.un s)) _=_
     rw[r.nx]
    by_cases h0:off=0
    ·rw[if_pos h0,beq_true.2 h0]
     show csets new cs (len*s) _=_
     rw[csets_eq,show len*s=l.length by rw[←h3.1,h0,Nat.zero_add]]
     exact fin _
    ·rw[if_neg h0,beq_false.2 h0]
     show cgets cs (len*s) off _=_
     rw[cgets_eq,csets_eq,lapp_eq,row_eq h5 (by omega)]
     have:(l.drop off).take (len*s)=l.drop off:=List.take_of_length_le (by simp;omega)
     rw[this]
     exact fin _
   ·rename_i h3'
    split at e
    ·rename_i h3
     cases e
     refine HV.eq (fun h=>?_) (HV.blk (k:=fun ro sz cs h=>ifB ro (.fail 36) (ifB (Nat.ble (Nat.add (Nat.add off (Nat.mul len s)) (Nat.mul n s)) sz) (forceN (Nat.add len n) fun m=>csets new cs (Nat.add off (Nat.mul len s)) fun cs=>setB h b (.live false sz cs) fun h=>.val (.slice b off m (.un s)) h) (apMove b off len s n new h)))
      hb ⟨η.nx+1,fun hd hm h cs r h4 h5=>?_⟩)
     ·rfl
     have hn:η.nx<mostBlocks:=lt_most' (Nat.lt_succ_self _) hd
     have r1:=(r.put hm (x:=.dead) (y:=.none) trivial)
     have hlen:(len+n)*s=((l.drop off).take (len*s)++new).length:=by
      rw[List.length_append,List.length_take,List.length_drop,h3.2,Nat.add_mul];omega
     refine⟨_,?_,r1.new hn (RepB_app2 (new:=new) h5 h3.1 hlen)⟩
     show ifB (Nat.ble (off+len*s+n*s) l.length) _ _=_
     have:Nat.ble (off+len*s+n*s) l.length=false:=by
      cases hq:Nat.ble (off+len*s+n*s) l.length with
      |false=>rfl
      |true=>exact absurd (ble_true.1 hq) h2
     rw[this,ifB_false]
     show blkk (hget h b) _=_
     rw[h4]
     show ifB (Nat.ble (off+len*s) l.length) _ _=_
     rw[ble_true.2 h3.1,ifB_true,forceN_eq,forceN_eq]
     have fin:∀c:T AV,setB h b .dead (fun h=>newB h (.live false ((len+n)*s) c) fun b' h=>.val (.slice b' 0 (len+n) (.un s)) h)=RV.val (.slice η.nx 0 (len+n) (.un s)) ⟨h.nx+1,trSet Deep.d h.nx (trSet Deep.d b h.m .dead) (.live false ((len+n)*s) c)⟩:=fun c=>by
      rw[setB_val,newB_eq (h:=⟨h.nx,trSet Deep.d b h.m .dead⟩) (by show h.nx<_;rw[r.nx];exact hn)]
      show RV.val (.slice h.nx 0 (len+n) (.un s)) _=_
      rw[r.nx]
     by_cases h0:off=0
     ·rw[if_pos h0,beq_true.2 h0]
      show csets new cs (len*s) _=_
      rw[csets_eq]
      exact fin _
     ·rw[if_neg h0,beq_false.2 h0]
      show cgets cs (len*s) off _=_
      rw[cgets_eq,csets_eq,lapp_eq,row_eq h5 h3.1]
      exact fin _
    ·cases e
 ·cases e
theorem apN_hv {s bytes n:Nat} {x:AV} {new:List AV} (e:apN s bytes x n new η=.ok v η'):HV (fun h=>appendCells s bytes x n new h) η v η':=by
 unfold apN at e
 split at e
 ·split at e
  ·rename_i h1
   cases e
   exact HV.pure fun h=>by show ifB (Nat.beq n 0) _ _=_;rw[beq_true.2 h1];rfl
  ·rename_i h1
   split at e
   ·rename_i h2
    cases e
    refine HV.eq (g':=fun h=>newBlk h new fun b h=>.val (.slice b 0 n (.un s)) h) (fun h=>?_) (HV.new fun h=>rfl)
    show ifB (Nat.beq n 0) _ (ifB (Nat.ble (n*bytes) 140737488355328) _ _)=_
    rw[beq_false.2 h1,ifB_false,ble_true.2 h2];rfl
   ·cases e
 ·rename_i b off len cap
  split at e
  ·rename_i h1
   split at e
   ·rename_i h2
    cases e
    exact HV.pure fun h=>by show ifB (Nat.ble ((len+n)*bytes) 140737488355328) (ifB (Nat.beq n 0) _ _) _=_;rw[ble_true.2 h1,ifB_true,beq_true.2 h2];rfl
   ·rename_i h2
    split at e
    ·refine HV.eq (fun h=>?_) (apKn_hv e)
     show ifB (Nat.ble ((len+n)*bytes) 140737488355328) (ifB (Nat.beq n 0) _ _) _=_
     rw[ble_true.2 h1,ifB_true,beq_false.2 h2];rfl
    ·rename_i es
     split at e
     ·rename_i h3
      refine HV.eq (fun h=>?_) (apUn_hv e)
      show ifB (Nat.ble ((len+n)*bytes) 140737488355328) (ifB (Nat.beq n 0) _ (ifB (Nat.beq es s) _ _)) _=_
      rw[ble_true.2 h1,ifB_true,beq_false.2 h2,ifB_false,beq_true.2 h3];rfl
     ·cases e
  ·cases e
 ·cases e
theorem apSrc_hv {s bytes:Nat} {x y:AV} (e:apSrcN s bytes x y η=.ok v η'):HV (fun h=>apSrc s bytes x y h) η v η':=by
 unfold apSrcN at e
 split at e
 ·split at e
  ·rename_i n u h1
   refine HV.eq (fun h=>?_) (apN_hv e)
   show ifB (Nat.beq s 1) (forceL (byteCells n u) fun l=>appendCells s bytes x n l h) _=_
   rw[beq_true.2 h1,ifB_true,forceL_eq]
  ·cases e
 ·exact apN_hv e
 ·rename_i b off len cp
  by_cases hl0:len=0
  ·rw[if_pos hl0]at e
   refine HV.eq (fun h=>?_) (apN_hv e)
   show ifB (Nat.beq len 0) (appendCells s bytes x 0 [] h) _=_
   rw[beq_true.2 hl0];rfl
  rw[if_neg hl0]at e
  unfold apRow at e
  split at e
  ·rename_i r hr
   obtain⟨ro,l,hb,h2,rfl⟩:=rowN_ok hr
   obtain⟨k0,k⟩:=apN_hv e
   refine HV.eq (fun h=>?_) (HV.blk (k:=fun _ sz cs h=>ifB (Nat.ble (Nat.add off (Nat.mul len s)) sz) (cgets cs (Nat.mul len s) off fun new=>appendCells s bytes x len new h) (.fail 40)) hb ⟨k0,fun hd _ h cs r h3 h4=>?_⟩)
   ·show ifB (Nat.beq len 0) _ _=_
    rw[beq_false.2 hl0];rfl
   ·obtain⟨h',a,c⟩:=k hd h r
    refine⟨h',?_,c⟩
    show ifB (Nat.ble (off+len*s) l.length) _ _=_
    rw[ble_true.2 h2,ifB_true,cgets_eq,show Nat.mul len s=len*s from rfl,row_eq h4 h2]
    exact a
  ·cases e
 ·cases e
theorem app_hv {t t2:TypeId} {x y:AV} (e:appN P (tdOf P t) (tdOf P t2) x y η=.ok v η'):HV (fun h=>(appendA P t t2).f x y h) η v η':=by
 unfold appN at e
 split at e
 ·rename_i el s bytes k h1 h2
  split at e
  ·cases e
  ·rename_i h3
   split at e
   ·rename_i z hz
    obtain⟨kd,a,rfl,h4,e⟩:=idxN_ok e
    split at e
    ·rename_i h5
     refine HV.eq (fun h=>?_) (apN_hv e)
     unfold appendA
     rw[h1]
     dsimp only
     rw[show Nat.mul s bytes=s*bytes from rfl,beq_false.2 h3,ifB_false,hz]
     dsimp only
     unfold isIntT
     rw[h2]
     dsimp only
     rw[ifB_true]
     refine(intIdx_eq h4 fun n=>ifB (okRoom n bytes) (forceL (lrep n (cellsA z)) fun l=>appendCells s bytes x n l h) (.fail 79)).trans ?_
     show ifB (Nat.ble (a*bytes) 140737488355328) _ _=_
     rw[ble_true.2 h5,ifB_true,forceL_eq,lrep_eq];rfl
    ·cases e
   ·cases e
 ·rename_i el s bytes h1 h2
  split at e
  ·cases e
  ·rename_i h3
   split at e
   ·rename_i z hz
    refine HV.eq (fun h=>?_) (apSrc_hv e)
    unfold appendA
    rw[h1]
    dsimp only
    rw[show Nat.mul s bytes=s*bytes from rfl,beq_false.2 h3,ifB_false,hz]
    dsimp only
    unfold isIntT isSeqT
    rw[h2];rfl
   ·cases e
 ·rename_i el s bytes a1 a2 a3 h1 h2
  split at e
  ·cases e
  ·rename_i h3
   split at e
   ·rename_i z hz
    refine HV.eq (fun h=>?_) (apSrc_hv e)
    unfold appendA
    rw[h1]
    dsimp only
    rw[show Nat.mul s bytes=s*bytes from rfl,beq_false.2 h3,ifB_false,hz]
    dsimp only
    unfold isIntT isSeqT
    rw[h2];rfl
   ·cases e
 ·cases e
theorem cpB_hv {s b off n:Nat} {new:List AV} (e:cpB s b off n (some new) (η.f b) η=.ok v η'):HV (fun h=>cpTo s b off n new h) η v η':=by
 unfold cpB at e
 split at e
 ·rename_i new' l ho hb
  cases ho
  split at e
  ·rename_i h1
   cases e
   refine HV.eq (fun h=>?_) (HV.blk (k:=fun ro sz cs h=>ifB ro (.fail 44) (ifB (Nat.ble (Nat.add off (Nat.mul n s)) sz) (csets new cs off fun cs=>setB h b (.live false sz cs) fun h=>mkLen n h) (.fail 44))) hb ⟨0,fun _ hm h cs r h3 h4=>⟨_,?_,r.put hm (RepB_sets h4 off new)⟩⟩)
   ·rfl
   ·show ifB (Nat.ble (off+n*s) l.length) _ _=_
    rw[ble_true.2 h1.1,ifB_true,csets_eq,setB_val]
    show ifB (Nat.ble n 9223372036854775807) _ _=_
    rw[ble_true.2 h1.2];rfl
  ·cases e
 ·cases e
theorem cl_hv {t:TypeId} {x:AV} (e:clN P (tdOf P t) x η=.ok v η'):HV (fun h=>(clearA P t).f x h) η v η':=by
 unfold clN at e
 split at e
 ·rename_i el s by' b off len cp h1
  cases hz:zeroT P el with
  |none=>rw[hz]at e;cases e
  |some z =>
   rw[hz]at e
   dsimp only at e
   split at e
   ·rename_i h2
    cases e
    refine HV.pure fun h=>?_
    unfold clearA
    rw[h1]
    dsimp only
    rw[hz]
    show ifB (Nat.beq len 0) _ _=_
    rw[beq_true.2 h2,ifB_true]
   ·rename_i h2
    unfold clB at e
    split at e
    ·rename_i l hb
     split at e
     ·rename_i h3
      cases e
      refine HV.eq (fun h=>?_) (HV.blk (k:=fun ro sz cs h=>ifB ro (.fail 82) (ifB (Nat.ble (Nat.add off (Nat.mul len s)) sz) (csets (repL len (cellsA z)) cs off fun cs=>setB h b (.live false sz cs) fun h=>.val und h) (.fail 82))) hb ⟨0,fun _ hm h cs r h4 h5=>⟨_,?_,r.put hm (RepB_sets h5 off (repL len (cellsA z)))⟩⟩)
      ·unfold clearA
       rw[h1]
       dsimp only
       rw[hz]
       show ifB (Nat.beq len 0) _ _=_
       rw[beq_false.2 h2,ifB_false,forceL_eq,lrep_eq]
       rfl
      ·show ifB (Nat.ble (off+len*s) l.length) _ _=_
       rw[ble_true.2 h3,ifB_true,csets_eq,setB_val]
     ·cases e
    ·cases e
 ·cases e
theorem cp_hv {t:TypeId} {x y:AV} (e:cpN (tdOf P t) x y η=.ok v η'):HV (fun h=>(copyA P t).f x y h) η v η':=by
 unfold cpN at e
 split at e
 ·rename_i el s by' b off len cp n u h1
  split at e
  ·rename_i h2
   refine HV.eq (fun h=>?_) (cpB_hv e)
   unfold copyA
   rw[h1]
   show ifB (Nat.beq s 1) (forceN (minN n len) fun n=>forceL (byteCells n u) fun l=>cpTo s b off n l h) _=_
   rw[beq_true.2 h2,ifB_true,forceN_eq,forceL_eq,minN_eq]
  ·cases e
 ·rename_i el s by' b off len cp b' off' len' cp' h1
  cases hr:rowN (η.f b') off' (min len' len*s) with
  |none=>rw[hr]at e;unfold cpB at e;cases e
  |some r =>
   rw[hr]at e
   obtain⟨ro,l,hb,h2,rfl⟩:=rowN_ok hr
   obtain⟨k0,k⟩:=cpB_hv e
   refine HV.eq (fun h=>?_) (HV.blk (k:=fun _ sz' cs' h=>ifB (Nat.ble (Nat.add off' (Nat.mul (min len' len) s)) sz') (cgets cs' (Nat.mul (min len' len) s) off' fun l=>cpTo s b off (min len' len) l h) (.fail 45)) hb ⟨k0,fun hd _ h cs r h3 h4=>?_⟩)
   ·unfold copyA
    rw[h1]
    show forceN (minN len' len) _=_
    rw[forceN_eq,minN_eq]
   ·obtain⟨h',a,c⟩:=k hd h r
    refine⟨h',?_,c⟩
    show ifB (Nat.ble (off'+min len' len*s) l.length) _ _=_
    rw[ble_true.2 h2,ifB_true,cgets_eq,show Nat.mul (min len' len) s=min len' len*s from rfl,row_eq h4 h2]
    exact a
 ·rename_i h1;cases e;refine HV.pure fun h=>?_;unfold copyA;rw[h1];rfl
 ·rename_i h1;cases e;refine HV.pure fun h=>?_;unfold copyA;rw[h1];rfl
 ·rename_i h1;cases e;refine HV.pure fun h=>?_;unfold copyA;rw[h1];rfl
 ·rename_i h1;cases e;refine HV.pure fun h=>?_;unfold copyA;rw[h1];rfl
 ·cases e
theorem min_ok' {x y:AV} (e:minN' x y=some v):∀ [Deep] (h:H),minA x y h=.val v h:=by
 unfold minN' at e
 split at e
 ·split at e
  ·rename_i k a k' b h1
   cases e
   intro _ h
   show ifB (keq k k') (mkI k (ifB (ltN k b a) b a) h) _=_
   rw[h1,ifB_true,mkI_eq,ifB_eq]
  ·cases e
 ·cases e
theorem isU8D_ok {e:TypeId} (h:isU8D (tdOf P e)=true):isU8 P e=true:=by
 unfold isU8D at h
 unfold isU8
 split at h
 ·rename_i h1;rw[h1];rfl
 ·cases h
theorem cv_hv {s d:TypeId} {x:AV} (e:cvN' P (tdOf P s) (tdOf P d) x η=.ok v η'):HV (fun h=>(convA P s d).f x h) η v η':=by
 unfold cvN' at e
 split at e
 ·rename_i k' k0 k a h1 h2
  cases e
  refine HV.pure fun h=>?_
  unfold convA
  rw[h1]
  dsimp only
  unfold isIntT
  rw[h2]
  show mkI k' (ifB (nneg k a) (Nat.mod a (modN k')) (res k' (sgn k a))) h=_
  rw[mkI_eq,ifB_eq];rfl
 ·rename_i n u h1 h2
  cases e
  refine HV.pure fun h=>?_
  unfold convA
  rw[h1]
  dsimp only
  unfold toStr
  rw[h2];rfl
 ·rename_i el s1 by' h1 h2
  split at e
  ·rename_i h3
   cases e
   refine HV.pure fun h=>?_
   unfold convA
   rw[h1]
   dsimp only
   unfold toStr
   rw[h2]
   dsimp only
   rw[isU8D_ok h3];rfl
  ·cases e
 ·rename_i el s1 by' b o l cp h1 h2
  split at e
  ·rename_i h3
   unfold strR at e
   split at e
   ·rename_i r hr
    obtain⟨ro,row,hb,h4,rfl⟩:=rowN_ok hr
    unfold strO at e
    split at e
    ·rename_i m hm
     cases e
     refine HV.eq (fun h=>?_) (HV.blk (k:=fun _ sz cs h=>ifB (Nat.ble (Nat.add o l) sz) (cgets cs l o fun l'=>bytesOf l' fun v=>.val (.str l v) h) (.fail 22)) hb ⟨0,fun _ _ h cs r h5 h6=>⟨h,?_,r⟩⟩)
     ·unfold convA
      rw[h1]
      dsimp only
      unfold toStr
      rw[h2]
      dsimp only
      rw[isU8D_ok h3];rfl
     ·show ifB (Nat.ble (o+l) row.length) _ _=_
      rw[ble_true.2 h4,ifB_true,cgets_eq,row_eq h6 h4,bytesOf_eq hm]
    ·cases e
   ·cases e
  ·cases e
 ·rename_i el s1 by' n u h1 h2
  split at e
  ·rename_i h3
   cases e
   refine HV.eq (g':=fun h=>newBlk h (byteCells n u) fun b h=>.val (.slice b 0 n (.un 1)) h) (fun h=>?_) (HV.new fun h=>rfl)
   unfold convA
   rw[h1]
   dsimp only
   rw[isU8D_ok h3,ifB_true]
   have hne:Nat.beq s d=false:=beq_false.2 fun q=>by subst q;rw[h2]at h1;cases h1
   rw[hne,ifB_false]
   unfold isStrT
   rw[h2]
   show forceL (byteCells n u) _=_
   rw[forceL_eq]
  ·cases e
 ·cases e
theorem cvI_hv {s d:TypeId} {x:AV} (e:(if s=d then cvI P (tdOf P d) x η (cvN' P (tdOf P s) (tdOf P d) x η) else cvN' P (tdOf P s) (tdOf P d) x η)=.ok v η'):HV (fun h=>(convA P s d).f x h) η v η':=by
 split at e
 ·rename_i hsd
  unfold cvI at e
  split at e
  ·rename_i el sz by' b o l c h1
   split at e
   ·rename_i h3
    split at e
    ·cases e
    ·rename_i h0
     unfold roN at e
     split at e
     ·rename_i row hb
      cases e
      refine HV.eq (fun h=>?_) (HV.blk (k:=fun ro _ _ h=>ifB ro (.fail 24) (ifB (Nat.beq l 0) (.fail 24) (.val (.slice b o l c) h))) hb ⟨0,fun _ _ h cs r h5 h6=>⟨h,?_,r⟩⟩)
      ·unfold convA
       rw[h1]
       dsimp only
       rw[isU8D_ok h3,ifB_true,beq_true.2 hsd,ifB_true];rfl
      ·show ifB false _ _=_
       rw[ifB_false,beq_false.2 h0,ifB_false]
     ·cases e
   ·exact cv_hv e
  ·exact cv_hv e
 ·exact cv_hv e
theorem funN_no {fv:AV} {args:List AV} (e:funN fv args=.ok v η'):False:=by unfold funN at e;split at e<;>cases e
theorem bi_ev {b:Builtin} {args:List Operand} {ts:List TypeId} (e:biR P b args ts φ η=.ok v η'):EV (cBuiltin P b args ts) φ η v η':=by
 unfold biR at e
 split at e
 ·rename_i x t r
  obtain⟨rfl,e1⟩:=lenN_ok e
  exact EV.pure fun call fr h hf=>by show(lenA P t).f ((operandR P x).f fr) h=_;rw[opd_eq hf];exact e1 h
 ·rename_i x t r
  obtain⟨rfl,e1⟩:=capN_ok e
  exact EV.pure fun call fr h hf=>by show(capA P t).f ((operandR P x).f fr) h=_;rw[opd_eq hf];exact e1 h
 ·rename_i x y t t2 r
  exact EV.of (fun call fr h hf=>by show(appendA P t t2).f ((operandR P x).f fr) ((operandR P y).f fr) h=_;rw[opd_eq hf,opd_eq hf]) (app_hv e)
 ·rename_i x y t t2 r
  exact EV.of (fun call fr h hf=>by show(copyA P t).f ((operandR P x).f fr) ((operandR P y).f fr) h=_;rw[opd_eq hf,opd_eq hf]) (cp_hv e)
 ·rename_i x y t t2 r
  obtain⟨h4,rfl⟩:=okO_ok e
  exact EV.pure fun call fr h hf=>by show minA ((operandR P x).f fr) ((operandR P y).f fr) h=_;rw[opd_eq hf,opd_eq hf];exact min_ok' h4 h
 ·rename_i x t r
  exact EV.of (fun call fr h hf=>by show(clearA P t).f ((operandR P x).f fr) h=_;rw[opd_eq hf]) (cl_hv e)
 ·cases e
theorem call_ev {c:Call} (e:callR P c φ η=.ok v η'):EV (eCall P c) φ η v η':=by
 unfold callR at e
 split at e
 ·exact(funN_no e).elim
 ·rename_i b hc
  unfold eCall
  rw[hc]
  exact bi_ev e
 ·cases e
theorem mpFind_N [Deep] {q:Q} {k:AV} {f:AV→RV} {n:RV}:∀{es:List (AV×AV)} {o:Option AV},fndN q k es=some o→mpFind q k es f n=match o with|some v=>f v|none=>n
 | [],o,e=>by cases e;rfl
 |x::r,o,e=>by
  unfold fndN at e
  show osome 49 (q k x.1) (fun b=>ifB b (f x.2) (mpFind q k r f n))=_
  cases hq:q k x.1 with
  |none=>rw[hq]at e;cases e
  |some b =>
   rw[hq]at e
   cases b with
   |true=>cases e;rfl
   |false=>exact mpFind_N (es:=r) e
theorem mpPut_N [Deep] {q:Q} {k v:AV}:∀{es es':List (AV×AV)} (c:List (AV×AV)→RV),putM q k v es=some es'→mpPut q k v es c=c es'
 | [],es',c,e=>by cases e;rfl
 |x::r,es',c,e=>by
  unfold putM at e
  show osome 49 (q k x.1) (fun b=>ifB b (c ((k,v)::r)) (mpPut q k v r fun r=>c (x::r)))=_
  cases hq:q k x.1 with
  |none=>rw[hq]at e;cases e
  |some b =>
   rw[hq]at e
   cases b with
   |true=>cases e;rfl
   |false =>
    cases hr:putM q k v r with
    |none=>rw[hr]at e;cases e
    |some r' =>
     rw[hr]at e
     cases e
     exact mpPut_N (es:=r) (fun r=>c (x::r)) hr
theorem keyD_ok {key:TypeId} {q:AV→AV→Option Bool} (e:keyD (tdOf P key)=some q):isKeyT P key=true∧(keyQ P key).f=q:=by
 unfold isKeyT keyQ
 unfold keyD at e
 split at e<;>first|(rename_i h;rw[h];cases e;exact⟨rfl,rfl⟩)|cases e
theorem esB_ok {x:BN} {es:List (AV×AV)} (e:esB x=some es):x=.mp es:=by
 unfold esB at e
 split at e
 ·cases e;rfl
 ·cases e
theorem HV.mpk {k:∀ [Deep],List (AV×AV)→H→RV} {b:Nat} {es:List (AV×AV)} (hb:η.f b=.mp es)
  (e:∃k0,∀ [Deep],k0≤Deep.d→b<mostBlocks→∀(h:H),Rep h η→∃h',k es h=.val v h'∧Rep h' η'):HV (fun h=>mpk (hget h b) fun es=>k es h) η v η':=by
 obtain⟨k0,e⟩:=e
 refine⟨max k0 (b+1),fun hd h r=>?_⟩
 have hm:b<mostBlocks:=lt_most' (show b<max k0 (b+1) by omega) hd
 have q:=r.blk b hm
 rw[hb]at q
 obtain⟨h',e1,e2⟩:=e (by omega) hm h r
 refine⟨h',?_,e2⟩
 show Eng.mpk (hget h b) _=_
 rw[show hget h b=.mp es from q]
 exact e1
theorem mkM_ev {t:TypeId} {r:Option Operand} (e:mkMN r η=.ok v η'):EV (eMkMap P t r) φ η v η':=by
 cases r with
 |some _=>cases e
 |none =>
  cases e
  refine⟨η.nx+1,fun hd call fr h hf r=>?_⟩
  have hm:η.nx<mostBlocks:=lt_most' (Nat.lt_succ_self _) hd
  refine⟨⟨h.nx+1,trSet Deep.d h.nx h.m (.mp [])⟩,?_,r.new hm rfl⟩
  show newB h (.mp []) _=_
  rw[newB_eq (by rw[r.nx];exact hm),r.nx]
theorem lk_ev {t:TypeId} {x k:Operand} {ok:Bool} (e:lkN P (tdOf P t) (opd φ x) (opd φ k) ok η=.ok v η'):EV (eLookup P t x k ok) φ η v η':=by
 unfold lkN at e
 split at e
 ·rename_i key elem ht
  split at e
  ·rename_i q z hq hz
   obtain⟨k1,k2⟩:=keyD_ok hq
   unfold lkE at e
   split at e
   ·rename_i es hes
    unfold lkO at e
    split at e
    ·rename_i o ho
     cases e
     have fin:∀ [Deep] (h:H),mpFind q (opd φ k) es (fun v=>ifB ok (.val (.tup [v,.bool true]) h) (.val v h)) (ifB ok (.val (.tup [z,.bool false]) h) (.val z h))=.val (lkV ok z o) h:=fun h=>by
      rw[mpFind_N ho]
      cases o<;>cases ok<;>rfl
     have hE:∀ [Deep] (call:Caller) (fr:Fr) (h:H),FrR fr φ→(eLookup P t x k ok).f call fr h=mapEs (opd φ x) h fun es=>mpFind q (opd φ k) es (fun v=>ifB ok (.val (.tup [v,.bool true]) h) (.val v h)) (ifB ok (.val (.tup [z,.bool false]) h) (.val z h)):=fun call fr h hf=>by
      unfold eLookup
      rw[ht]
      dsimp only
      rw[k1,ifB_true,hz]
      dsimp only
      rw[forceV_eq,opd_eq hf,opd_eq hf,k2]
     unfold esN at hes
     split at hes
     ·rename_i b hx
      have hb:=esB_ok hes
      refine EV.of (fun call fr h hf=>(hE call fr h hf).trans (by rw[hx];rfl)) (HV.mpk hb ⟨0,fun _ _ h r=>⟨h,fin h,r⟩⟩)
     ·rename_i hx
      cases hes
      exact EV.pure fun call fr h hf=>(hE call fr h hf).trans (by rw[hx];exact fin h)
     ·cases hes
    ·cases e
   ·cases e
  ·cases e
 ·cases e
theorem mu_ev {t:TypeId} {m k x:Operand} (e:muN P (tdOf P t) (opd φ m) (opd φ k) (opd φ x) η=.ok v η'):EV (eMapUpdate P t m k x) φ η v η':=by
 unfold muN at e
 split at e
 ·rename_i key elem b ht hm
  split at e
  ·rename_i q hq
   obtain⟨k1,k2⟩:=keyD_ok hq
   unfold muE at e
   split at e
   ·rename_i es hes
    have hb:=esB_ok hes
    unfold muO at e
    split at e
    ·rename_i es' ho
     cases e
     refine EV.of (g:=fun h=>mpk (hget h b) fun es=>mpPut q (opd φ k) (opd φ x) es fun es=>setB h b (.mp es) fun h=>.val und h) (fun call fr h hf=>?_) (HV.mpk hb ⟨0,fun _ hm h r=>⟨⟨h.nx,trSet Deep.d b h.m (.mp es')⟩,?_,r.put hm rfl⟩⟩)
     ·unfold eMapUpdate
      rw[ht]
      dsimp only
      rw[k1,ifB_true]
      dsimp only
      rw[forceV_eq,forceV_eq,opd_eq hf,opd_eq hf,opd_eq hf,hm,k2];rfl
     ·rw[mpPut_N _ ho,setB_val]
    ·cases e
   ·cases e
  ·cases e
 ·cases e
theorem opR_ev {op:Op} (e:opR P op φ η=.ok v η'):EV (evOp0 P op) φ η v η':=by
 cases op<;>(try (cases e;done))<;>unfold opR at e<;>dsimp only at e
 case move x=>cases e;exact EV.pure fun call fr h hf=>by show mkV ((operandR P x).f fr) h=_;rw[opd_eq hf,mkV_eq]
 case assign x=>cases e;exact EV.pure fun call fr h hf=>by show mkV ((operandR P x).f fr) h=_;rw[opd_eq hf,mkV_eq]
 case pick c a b =>
  unfold pickN at e
  split at e
  ·rename_i h1;cases e
   exact EV.pure fun call fr h hf=>by show asBoolV ((operandR P c).f fr) _=_;rw[opd_eq hf,h1];show mkV ((operandR P a).f fr) h=_;rw[opd_eq hf,mkV_eq]
  ·rename_i h1;cases e
   exact EV.pure fun call fr h hf=>by show asBoolV ((operandR P c).f fr) _=_;rw[opd_eq hf,h1];show mkV ((operandR P b).f fr) h=_;rw[opd_eq hf,mkV_eq]
  ·cases e
 case alloc t =>
  cases hz:zeroT P t with
  |none=>rw[hz]at e;cases e
  |some z =>
   rw[hz]at e
   refine EV.of (fun call fr h hf=>?_) (new_hv rfl e)
   show(eAlloc P t).f call fr h=_
   unfold eAlloc;rw[hz]
 case box t x =>
  cases hc:cellsV (opd φ x) with
  |none=>rw[hc]at e;cases e
  |some l =>
   rw[hc]at e
   refine EV.of (fun call fr h hf=>?_) (new_hv rfl e)
   show forceV ((operandR P x).f fr) _=_
   rw[forceV_eq,opd_eq hf,cellsK_eq hc]
 case build t ps=>exact build_ev e
 case buildSlice t n ps=>exact buildSlice_ev e
 case load t x=>exact EV.of (fun call fr h hf=>by show(loadA P t).f ((operandR P x).f fr) h=_;rw[opd_eq hf]) (load_hv e)
 case store t x y=>exact EV.of (fun call fr h hf=>by show forceV ((operandR P y).f fr) _=_;rw[forceV_eq,opd_eq hf,opd_eq hf]) (store_hv e)
 case nilCheck x =>
  unfold nilN at e
  split at e
  ·rename_i h1;cases e;exact EV.pure fun call fr h hf=>by show nilChk ((operandR P x).f fr) h=_;rw[opd_eq hf,h1];rfl
  ·rename_i h1;cases e;exact EV.pure fun call fr h hf=>by show nilChk ((operandR P x).f fr) h=_;rw[opd_eq hf,h1];rfl
  ·cases e
 case binOp op t x y t' =>
  obtain⟨h1,rfl⟩:=okO_ok e
  refine EV.pure fun call fr h hf=>?_
  show(binA P op t (ifB (isConstO x) true (isConstO y))).f ((operandR P x).f fr) ((operandR P y).f fr) h=_
  rw[opd_eq hf,opd_eq hf]
  have:ifB (isConstO x) true (isConstO y)=(isConstO x||isConstO y):=by cases isConstO x<;>rfl
  rw[this]
  exact binN_ok h1 h
 case unOp op t x =>
  obtain⟨h1,rfl⟩:=okO_ok e
  refine EV.pure fun call fr h hf=>?_
  show(unA op).f ((operandR P x).f fr) h=_
  rw[opd_eq hf]
  exact unN_ok h1 h
 case convert s d x=>exact EV.of (fun call fr h hf=>by show(convA P s d).f ((operandR P x).f fr) h=_;rw[opd_eq hf]) (cvI_hv e)
 case makeFunc fn a c =>
  unfold mkFN at e
  split at e
  ·rename_i f
   cases e
   refine EV.pure fun call fr h hf=>?_
   show(ogets P a.toList).f fr (fun l=>(ogets P c.toList).f fr fun c=>.val (.func f l c) h)=_
   rw[ogetsN_eq hf,ogetsN_eq hf]
  ·cases e
 case makeSlice t l c=>exact mkS_ev e
 case slice t x lo hi mx =>
  split at e
  ·cases e
  ·rename_i h1
   exact slice_ev (by simpa using h1) e
 case fieldAddr t x f=>exact fieldAddr_ev e
 case field t x f=>exact field_ev e
 case indexAddr t x i=>exact indexAddr_ev e
 case index t x i=>exact index_ev e
 case extract x i=>exact extract_ev e
 case call c=>exact call_ev e
 case makeMap t r=>exact mkM_ev (P:=P) (t:=t) e
 case lookup t x k ok=>exact lk_ev e
 case mapUpdate t m k x=>exact mu_ev e
section
variable {f:FuncId} {as:List AV}
theorem okO_nc {o:Option AV}:okO o η≠.call f as:=by unfold okO;split<;>exact fun h=>by cases h
theorem idxN_nc {i:AV} {k:Nat→RES} (hk:∀n,k n≠.call f as):idxN i k≠.call f as:=by
 unfold idxN
 split
 ·split
  ·exact hk _
  ·exact fun h=>by cases h
 ·exact fun h=>by cases h
theorem bndN_nc {o:Option AV} {d:Nat} {k:Nat→RES} (hk:∀n,k n≠.call f as):bndN o d k≠.call f as:=by
 unfold bndN
 split
 ·exact hk _
 ·exact idxN_nc hk
theorem bndsN_nc {lo hi:Option AV} {len top:Nat} {k:Nat→Nat→RES} (hk:∀n m,k n m≠.call f as):bndsN lo hi len top k≠.call f as :=
 bndN_nc fun _=>bndN_nc fun _=>by split;exact hk _ _;exact fun h=>by cases h
theorem slToN_nc {b off l hh c s:Nat}:slToN b off l hh c s η≠.call f as:=by unfold slToN;split<;>exact fun h=>by cases h
theorem slHN_nc {lo hi:Option AV} {b off len:Nat} {cap:Cp} {r:RES} (hr:r≠.call f as):slHN lo hi b off len cap η r≠.call f as:=by
 unfold slHN
 split
 ·exact idxN_nc fun _=>by split;exact fun h=>(by cases h);exact hr
 ·exact hr
theorem slN_nc {td:TD} {x:AV} {lo hi mx:Option AV}:slN td x lo hi mx η≠.call f as:=by
 unfold slN
 split
 ·exact bndsN_nc fun _ _ h=>by cases h
 ·exact bndsN_nc fun _ _ h=>by cases h
 ·exact idxN_nc fun _=>by split;exact bndsN_nc fun _ _ h=>(by cases h);exact fun h=>by cases h
 ·exact slHN_nc (bndsN_nc fun _ _=>slToN_nc)
 ·exact idxN_nc fun _=>by split;exact bndsN_nc fun _ _=>slToN_nc;exact fun h=>by cases h
 ·refine slHN_nc ?_
  split
  ·exact bndsN_nc fun _ _ h=>by cases h
  ·exact fun h=>by cases h
 ·split
  ·exact idxN_nc fun _=>by split;exact bndsN_nc fun _ _=>slToN_nc;exact fun h=>by cases h
  ·exact fun h=>by cases h
 ·exact bndsN_nc fun _ _=>slToN_nc
 ·exact fun h=>by cases h
theorem ldP_nc {ty:Option (Nat×Nat×Bool)} {x:AV}:ldP ty x η≠.call f as:=by
 unfold ldP
 split
 ·unfold ldB
  split
  ·split
   ·split<;>exact fun h=>by cases h
   ·exact okO_nc
  ·exact fun h=>by cases h
 ·exact fun h=>by cases h
theorem stP_nc {ty:Option (Nat×Nat×Bool)} {x y:AV}:stP ty x y η≠.call f as:=by
 unfold stP stV stB
 repeat' split
 all_goals exact fun h=>by cases h
theorem newN_nc {o:Option (List AV)}:newN o η≠.call f as:=by unfold newN;split<;>exact fun h=>by cases h
theorem bldN_nc {td:TD} {z:Option AV} {ps:List (Nat×Operand)}:bldN td z φ ps η≠.call f as:=by
 unfold bldN aggO
 repeat' split
 all_goals exact fun h=>by cases h
theorem bldS_nc {td:TD} {n:Nat} {ps:List (Nat×Operand)}:bldS P td n φ ps η≠.call f as:=by
 unfold bldS slO
 repeat' split
 all_goals exact fun h=>by cases h
theorem mkSN_nc {td:TD} {l c:AV}:mkSN P td l c η≠.call f as:=by
 unfold mkSN
 split
 ·split
  ·exact idxN_nc fun _=>idxN_nc fun _=>by split<;>exact fun h=>by cases h
  ·exact fun h=>by cases h
 ·exact fun h=>by cases h
theorem cvN_nc {s d:TD} {x:AV}:cvN' P s d x η≠.call f as:=by
 unfold cvN' strR strO
 repeat' split
 all_goals exact fun h=>by cases h
theorem cvI_nc {s d:TypeId} {x:AV}:(if s=d then cvI P (tdOf P d) x η (cvN' P (tdOf P s) (tdOf P d) x η) else cvN' P (tdOf P s) (tdOf P d) x η)≠.call f as:=by
 split
 ·unfold cvI roN
  split
  ·split
   ·split
    ·exact fun h=>by cases h
    ·split<;>exact fun h=>by cases h
   ·exact cvN_nc
  ·exact cvN_nc
 ·exact cvN_nc
theorem iaN_nc {td:TD} {x i:AV}:iaN td x i η≠.call f as:=by
 unfold iaN
 split
 ·exact idxN_nc fun _=>by split<;>exact fun h=>by cases h
 ·exact idxN_nc fun _=>by split<;>exact fun h=>by cases h
 ·exact fun h=>by cases h
theorem ixN_nc {td:TD} {x i:AV}:ixN td x i η≠.call f as:=by
 unfold ixN
 split
 ·exact idxN_nc fun _=>by split<;>exact fun h=>by cases h
 ·exact idxN_nc fun _=>by split;exact okO_nc;exact fun h=>by cases h
 ·exact fun h=>by cases h
theorem apN_nc {s bytes n:Nat} {x:AV} {new:List AV}:apN s bytes x n new η≠.call f as:=by
 unfold apN apKn apUn apNewN
 repeat' split
 all_goals exact fun h=>by cases h
theorem apSrcN_nc {s bytes:Nat} {x y:AV}:apSrcN s bytes x y η≠.call f as:=by
 unfold apSrcN apRow
 repeat' split
 all_goals first|exact apN_nc|exact fun h=>by cases h
theorem biR_nc {b:Builtin} {args:List Operand} {ts:List TypeId}:biR P b args ts φ η≠.call f as:=by
 unfold biR
 split
 ·unfold lenN lenI
  repeat' split
  all_goals exact fun h=>by cases h
 ·unfold capN lenI
  repeat' split
  all_goals exact fun h=>by cases h
 ·unfold appN
  split
  ·split
   ·exact fun h=>by cases h
   ·split
    ·exact idxN_nc fun _=>by split;exact apN_nc;exact fun h=>by cases h
    ·exact fun h=>by cases h
  ·repeat' split
   all_goals first|exact apSrcN_nc|exact fun h=>by cases h
  ·repeat' split
   all_goals first|exact apSrcN_nc|exact fun h=>by cases h
  ·exact fun h=>by cases h
 ·unfold cpN cpB
  repeat' split
  all_goals exact fun h=>by cases h
 ·exact okO_nc
 ·unfold clN clB
  repeat' split
  all_goals exact fun h=>by cases h
 ·exact fun h=>by cases h
theorem lkN_nc {td:TD} {x k:AV} {ok:Bool}:lkN P td x k ok η≠.call f as:=by
 unfold lkN lkE lkO
 repeat' split
 all_goals exact fun h=>by cases h
theorem muN_nc {td:TD} {m k x:AV}:muN P td m k x η≠.call f as:=by
 unfold muN muE muO
 repeat' split
 all_goals exact fun h=>by cases h
theorem mkMN_nc {r:Option Operand}:mkMN r η≠.call f as:=by
 unfold mkMN
 split
 all_goals exact fun h=>by cases h
theorem opR_call {op:Op} (e:opR P op φ η=.call f as):∃c fv,op=.call c∧c.callee=.value fv∧funN (opd φ fv) (c.args.toList.map (opd φ))=.call f as:=by
 cases op<;>(try (cases e;done))<;>unfold opR at e<;>dsimp only at e
 case call c =>
  unfold callR at e
  split at e
  ·rename_i fv hc;exact⟨c,fv,rfl,hc,e⟩
  ·exact(biR_nc e).elim
  ·cases e
 case pick c a b=>unfold pickN at e;split at e<;>cases e
 case alloc t=>exact(newN_nc e).elim
 case box t x=>exact(newN_nc e).elim
 case build t ps=>exact(bldN_nc e).elim
 case buildSlice t n ps=>exact(bldS_nc e).elim
 case load t x=>exact(ldP_nc e).elim
 case store t x y=>exact(stP_nc e).elim
 case nilCheck x=>unfold nilN at e;split at e<;>cases e
 case binOp op t x y t'=>exact(okO_nc e).elim
 case unOp op t x=>exact(okO_nc e).elim
 case convert s d x=>exact(cvI_nc e).elim
 case makeFunc fn a c=>unfold mkFN at e;split at e<;>cases e
 case makeSlice t l c=>exact(mkSN_nc e).elim
 case slice t x lo hi mx =>
  split at e
  ·cases e
  ·exact(slN_nc e).elim
 case fieldAddr t x i=>unfold fldAN at e;split at e<;>(try split at e)<;>cases e
 case field t x i =>
  unfold fldN at e
  split at e
  ·exact(okO_nc e).elim
  ·cases e
 case indexAddr t x i=>exact(iaN_nc e).elim
 case index t x i=>exact(ixN_nc e).elim
 case extract x i =>
  unfold exN at e
  split at e
  ·exact(okO_nc e).elim
  ·cases e
 case makeMap t r=>exact(mkMN_nc e).elim
 case lookup t x k ok=>exact(lkN_nc e).elim
 case mapUpdate t m k x=>exact(muN_nc e).elim
end
theorem funN_call {fv:AV} {args:List AV} {f:FuncId} {as:List AV} (e:funN fv args=.call f as):∃a c,fv=.func f a c∧as=a++(args++c):=by
 unfold funN at e
 split at e
 ·cases e;exact⟨_,_,rfl,rfl⟩
 ·cases e
end
end Go.Eng
namespace Go.Eng
set_option autoImplicit false
noncomputable section
abbrev Kont:=Ex→FN→HN→Prop
abbrev Spec:=FuncId→List AV→HN→AV→HN→Prop
def thenN (C:Spec) (r:RES) (η:HN) (d:Option Nat) (k:FN→HN→Prop) (φ:FN):Prop:=match r with
 |.no=>False
 |.ok v η'=>k (putN d v φ) η'
 |.call f args=>∃v η',C f args η v η'∧k (putN d v φ) η'
def wantN (all:List Oper) (g:Option (Nat×Bool)) (φ:FN):Bool:=match g with
 |none=>true
 |some (j,w)=>match dstOf all j with|some d=>asBool (φ d) (fun b=>beqB b w) false|none=>false
def wpOps (P:Program) (C:Spec) (all:List Oper):List Oper→(FN→HN→Prop)→FN→HN→Prop
 | [],K=>K
 |o::r,K=>fun φ η=>match wantN all o.guard φ with
  |true=>thenN C (opR P o.op φ η) η o.dst (wpOps P C all r K) φ
  |false=>wpOps P C all r K (putN o.dst und φ) η
inductive DK where
 |alloc|eff|pure
 |read (lo hi:Nat)
structure RecN where
 op:Op
 φ:FN
 v:AV
 lo:Nat
 hi:Nat
def okV (r:RES) (v:AV):Prop:=match r with|.ok v' _=>v'=v|_=>False
def sameInN (P:Program) (r:RecN):List HN→Nat→Prop
 | [],_=>True
 |η::ηs,k=>(r.lo≤k→k≤r.hi→okV (opR P r.op r.φ η) r.v)∧sameInN P r ηs (k-1)
def sameN (P:Program) (ηs:List HN) (k:Nat):List RecN→Prop
 | []=>True
 |r::rs=>sameInN P r ηs k∧sameN P ηs k rs
def HN.at_ (η:HN) (n:Nat):HN:=⟨n,η.f⟩
def effL (k:DK) (η:HN) (ηs:List HN):List HN:=match k with|.eff=>η::ηs|_=>ηs
def drawN (P:Program) (C:Spec) (all:List Oper) (K:FN→HN→Prop) (nx0:Nat):List DK→List Oper→Nat→FN→HN→List HN→List RecN→Prop
 | [],[],_,φ,η,ηs,rs=>sameN P ηs (ηs.length-1) rs∧K φ η
 |k::ks,o::r,j,φ,η,ηs,rs=>match wantN all o.guard φ with
  |true=>(match k with
   |.alloc=>(match opR P o.op φ (η.at_ (nx0+j)) with|.ok v η'=>drawN P C all K nx0 ks r (j+1) (putN o.dst v φ) (η'.at_ η.nx) ηs rs|_=>False)
   |.eff=>thenN C (opR P o.op φ η) η o.dst (fun φ' η'=>drawN P C all K nx0 ks r (j+1) φ' η' (η'::ηs) rs) φ
   |.pure=>(match opR P o.op φ η with|.ok v η'=>drawN P C all K nx0 ks r (j+1) (putN o.dst v φ) η' ηs rs|_=>False)
   |.read lo hi=>(match opR P o.op φ η with|.ok v η'=>drawN P C all K nx0 ks r (j+1) (putN o.dst v φ) η' ηs (⟨o.op,φ,v,lo,hi⟩::rs)|_=>False))
  |false=>drawN P C all K nx0 ks r (j+1) (putN o.dst und φ) η (effL k η ηs) rs
 |_,_,_,_,_,_,_=>False
def anyAl:List DK→Bool
 | []=>false
 |.alloc::_=>true
 |_::r=>anyAl r
def startN (P:Program) (C:Spec) (plan:List DK) (ops:List Oper) (K:FN→HN→Prop) (φ:FN) (η:HN):Prop :=
 drawN P C ops K η.nx plan ops 0 φ (η.at_ (if anyAl plan then η.nx+ops.length else η.nx)) [η.at_ (if anyAl plan then η.nx+ops.length else η.nx)] []
def seqKN (w:FN→HN→Prop) (K:Kont):Kont:=fun e φ η=>match e with|.normal=>w φ η|.exit i=>K (.exit i) φ η|.ret=>K .ret φ η
def blkKN (i:Nat) (K:Kont):Kont:=fun e φ η=>match e with|.normal=>K .normal φ η|.exit j=>if j=i then K .normal φ η else K (.exit j) φ η|.ret=>K .ret φ η
def condN (c:AV) (a b:FN→HN→Prop) (φ:FN) (η:HN):Prop:=match c with|.bool true=>a φ η|.bool false=>b φ η|_=>False
def loopW (w:Kont→FN→HN→Prop):Nat→Kont→FN→HN→Prop
 |0,_,_,_=>False
 |m+1,K,φ,η=>w (seqKN (loopW w m K) K) φ η
abbrev Plans:=Nat→List DK
def wpN (P:Program) (C:Spec) (PT:Plans):Code→Kont→FN→HN→Prop
 |.skip,K=>K .normal
 |.region _ ops false,K=>wpOps P C ops.toList ops.toList (K .normal)
 |.region id ops true,K=>startN P C (PT id) ops.toList (K .normal)
 |.seq a b,K=>wpN P C PT a (seqKN (wpN P C PT b K) K)
 |.cond c a b,K=>fun φ η=>condN (opd φ c) (wpN P C PT a K) (wpN P C PT b K) φ η
 |.block i b,K=>wpN P C PT b (blkKN i K)
 |.loop b,K=>fun φ η=>∃m,loopW (wpN P C PT b) m K φ η
 |.exit i,K=>K (.exit i)
 |.ret,K=>K .ret
 |_,_=>fun _ _=>False
def dkEq (a b:DK):Bool:=match a,b with
 |.alloc,.alloc=>true|.eff,.eff=>true|.pure,.pure=>true
 |.read a b,.read c d=>Nat.beq a c&&Nat.beq b d
 |_,_=>false
def dkOf (P:Program) (ops:List Oper) (bs:List Nat) (j:Nat) (o:Oper):DK:=match cls P o.op with
 |.alloc=>.alloc
 |.eff=>.eff
 |.read=>ifB (calm P ops bs j) .pure (.read (effLo P ops bs j) (effHi P ops bs j))
 |.pure=>.pure
def planOk (P:Program) (all:List Oper) (bs:List Nat):List DK→List Oper→Nat→Bool
 | [],[],_=>true
 |k::ks,o::r,j=>dkEq k (dkOf P all bs j o)&&planOk P all bs ks r (j+1)
 |_,_,_=>false
def dstOk (n:Nat) (d:Option Nat):Bool:=match d with|none=>true|some d=>Nat.ble (d+1) n
def operOk (P:Program) (n:Nat) (o:Oper):Bool:=lall (goodO P) o.op.operands.toList&&dstOk n o.dst
def condOk (c:Operand):Bool:=match c with|.tmp _=>true|.const (.bool _)=>true|_=>false
def okC (P:Program) (n:Nat) (PT:Plans):Code→Bool
 |.region id ops d=>lall (operOk P n) ops.toList&&(match d with|true=>planOk P ops.toList (befs ops.toList) (PT id) ops.toList 0|false=>true)
 |.seq a b=>okC P n PT a&&okC P n PT b
 |.cond c a b=>condOk c&&(okC P n PT a&&okC P n PT b)
 |.block _ b=>okC P n PT b
 |.loop b=>okC P n PT b
 |_=>true
def CallN (P:Program) (nat:∀ [Deep],Nats):Spec:=fun f args η v η'=>∃k0,∀ [Deep],k0≤Deep.d→k0≤Deep.loops→∀m,k0≤m→∀h,Rep h η→∃h',(callN P nat m).f f args h=.val v h'∧Rep h' η'
def RunC (P:Program) (nat:∀ [Deep],Nats) (c:∀ [Deep],C) (φ:FN) (η:HN) (e:Ex) (φ':FN) (η':HN):Prop :=
 ∃k0,∀ [Deep],k0≤Deep.d→k0≤Deep.loops→∀m,k0≤m→∀fr h,FrR fr φ→Rep h η→∃fr' h',c.f (callN P nat m) fr h=.ok e fr' h'∧FrR fr' φ'∧Rep h' η'
end
section
variable {P:Program} {nat:∀ [Deep],Nats} {PT:Plans} {n:Nat}
theorem FrR.putN {fr:Fr} {φ:FN} {d:Option Nat} (hf:FrR fr φ) (hd:∀t,d=some t→t<512) (v:AV):FrR (frPut d v fr) (putN d v φ):=by
 cases d with
 |none=>exact hf
 |some d =>
  intro t
  show slot (trSet 3 d fr v) t=upd φ d v t
  haveI:Deep:=⟨0,0⟩
  rw[slot_put (hd d rfl)]
  unfold upd
  split
  ·rfl
  ·exact hf t
theorem dst_lt {d:Option Nat} (h:dstOk n d=true) (hn:n≤512):(∀t,d=some t→t<n)∧∀t,d=some t→t<512:=by
 cases d with
 |none=>exact⟨(fun _ h=>by cases h),(fun _ h=>by cases h)⟩
 |some d =>
  have:d+1≤n:=ble_true.1 h
  exact⟨(fun t e=>by cases e;omega),(fun t e=>by cases e;omega)⟩
theorem putA_eq [Deep] {d:Option Nat} (hd:∀t,d=some t→t<n) (v:AV) (fr:Fr) (k:Fr→R):(putA n d).f v fr k=k (frPut d v fr):=by
 cases d with
 |none=>rfl
 |some d =>
  have:=hd d rfl
  unfold putA
  dsimp only
  rw[ble_true.2 (show Nat.succ d≤n from this),ifB_true]
  exact trP_eq 3 R d fr v k
theorem want_N {fr:Fr} {φ:FN} (hf:FrR fr φ) (all:List Oper) (g:Option (Nat×Bool)):(wantA all g).f fr=wantN all g φ:=by
 cases g with
 |none=>rfl
 |some g =>
  obtain⟨j,w⟩:=g
  unfold wantA wantN
  dsimp only
  cases dstOf all j with
  |none=>rfl
  |some d=>exact congrArg (fun x=>asBool x (fun b=>beqB b w) false) (hf d)
theorem op_run {op:Op} {φ:FN} {η:HN} {d:Option Nat} {k:FN→HN→Prop} (hg:lall (goodO P) op.operands.toList=true) (w:thenN (CallN P nat) (opR P op φ η) η d k φ) :
  ∃v η',k (putN d v φ) η'∧∃k0,∀ [Deep],k0≤Deep.d→k0≤Deep.loops→∀m,k0≤m→∀fr h,FrR fr φ→Rep h η→∃h',(evOp P op).f (callN P nat m) fr h=.val v h'∧Rep h' η':=by
 have he:∀ [Deep],evOp P op=evOp0 P op:=by intro _;unfold evOp;rw[hg];rfl
 unfold thenN at w
 split at w
 ·exact w.elim
 ·rename_i v η' hr
  obtain⟨k0,q⟩:=opR_ev hr
  exact⟨v,η',w,k0,fun h1 _ m _ fr h hf r=>by rw[he];exact q h1 _ fr h hf r⟩
 ·rename_i f args hr
  obtain⟨v,η',⟨k0,c⟩,w⟩:=w
  refine⟨v,η',w,k0,fun h1 h2 m hm fr h hf r=>?_⟩
  obtain⟨h',c1,c2⟩:=c h1 h2 m hm h r
  refine⟨h',?_,c2⟩
  rw[he]
  obtain⟨cl,fv,rfl,h3,h4⟩:=opR_call hr
  obtain⟨a,b,h6,rfl⟩:=funN_call h4
  show(eCall P cl).f _ fr h=_
  unfold eCall
  rw[h3]
  show(ogets P cl.args.toList).f fr (fun l=>cGo ((operandR P fv).f fr) (callN P nat m) l h)=_
  rw[ogetsN_eq hf,opd_eq hf,h6]
  show forceL (lapp a (lapp (cl.args.toList.map (opd φ)) b)) _=_
  rw[forceL_eq,lapp_eq,lapp_eq]
  exact c1
theorem lall_N {α:Type} (p:α→Bool) (l:List α):lall p l=true↔∀x∈l,p x=true:=by
 haveI:Deep:=⟨0,0⟩
 exact lall_iff p l
theorem wpOps_run (hn:n≤512) (all:List Oper):∀(l:List Oper) (K:FN→HN→Prop) (φ:FN) (η:HN),lall (operOk P n) l=true→wpOps P (CallN P nat) all l K φ η →
  ∃φ' η',K φ' η'∧RunC P nat (opsA P n all l) φ η .normal φ' η'
 | [],K,φ,η,_,w=>⟨φ,η,w,0,fun _ _ m _ fr h hf r=>⟨fr,h,rfl,hf,r⟩⟩
 |o::l,K,φ,η,ok,w=>by
  have ok':=(lall_N _ _).1 ok
  obtain⟨g1,g2⟩:=Bool.and_eq_true_iff.1 (ok' o (by simp))
  obtain⟨d1,d2⟩:=dst_lt g2 hn
  have okl:lall (operOk P n) l=true:=(lall_N _ _).2 fun x hx=>ok' x (List.mem_cons_of_mem _ hx)
  unfold wpOps at w
  split at w
  ·rename_i hw
   obtain⟨v,η1,w,k0,q⟩:=op_run g1 w
   obtain⟨φ',η',hk,k1,q'⟩:=wpOps_run hn all l K _ _ okl w
   refine⟨φ',η',hk,max k0 k1,fun h1 h2 m hm fr h hf r=>?_⟩
   obtain⟨h',a,b⟩:=q (by omega) (by omega) m (by omega) fr h hf r
   obtain⟨fr2,h2',c,d,e⟩:=q' (by omega) (by omega) m (by omega) (frPut o.dst v fr) h' (hf.putN d2 v) b
   refine⟨fr2,h2',?_,d,e⟩
   show(stepA P n all o (opsA P n all l)).f (callN P nat m) fr h=_
   unfold stepA
   cases hg:o.guard with
   |none =>
    show rvk ((evOp P o.op).f _ fr h) _ _=_
    rw[a]
    show(putA n o.dst).f v fr _=_
    rw[putA_eq d1];exact c
   |some g =>
    show ifB ((wantA all (some g)).f fr) _ _=_
    rw[←hg,want_N hf,hw,ifB_true]
    show rvk ((evOp P o.op).f _ fr h) _ _=_
    rw[a]
    show(putA n o.dst).f v fr _=_
    rw[putA_eq d1];exact c
  ·rename_i hw
   obtain⟨φ',η',hk,k1,q'⟩:=wpOps_run hn all l K _ _ okl w
   refine⟨φ',η',hk,k1,fun h1 h2 m hm fr h hf r=>?_⟩
   obtain⟨fr2,h2',c,d,e⟩:=q' h1 h2 m hm (frPut o.dst und fr) h (hf.putN d2 und) r
   refine⟨fr2,h2',?_,d,e⟩
   show(stepA P n all o (opsA P n all l)).f (callN P nat m) fr h=_
   unfold stepA
   cases hg:o.guard with
   |none=>rw[hg]at hw;cases hw
   |some g =>
    show ifB ((wantA all (some g)).f fr) _ _=_
    rw[←hg,want_N hf,hw,ifB_false,putA_eq d1];exact c
end
end Go.Eng
namespace Go.Eng
set_option autoImplicit false
section
mutual
theorem avEq_refl:∀a:AV,avEq a a=true
 |.bool b=>by show beqB b b=true;cases b<;>rfl
 |.int k n=>by show and2 (keq k k) (Nat.beq n n)=true;rw[(keq_iff k k).2 rfl,Nat.beq_refl];rfl
 |.str n v=>by show and2 (Nat.beq n n) (Nat.beq v v)=true;rw[Nat.beq_refl,Nat.beq_refl];rfl
 |.nilptr=>rfl
 |.ptr b o=>by show and2 (Nat.beq b b) (Nat.beq o o)=true;rw[Nat.beq_refl,Nat.beq_refl];rfl
 |.nilslice=>rfl
 |.slice b o l c=>by
  show and2 (Nat.beq b b) (and2 (Nat.beq o o) (and2 (Nat.beq l l) (cpEq c c)))=true
  rw[Nat.beq_refl,Nat.beq_refl,Nat.beq_refl]
  cases c with
  |kn c=>show Nat.beq c c=true;exact Nat.beq_refl c
  |un c=>show Nat.beq c c=true;exact Nat.beq_refl c
 |.func f a b=>by
  show and2 (Nat.beq f f) (and2 (avEq (.agg a) (.agg a)) (avEq (.agg b) (.agg b)))=true
  rw[Nat.beq_refl,avEqL_refl a,avEqL_refl b];rfl
 |.nilFunc=>rfl
 |.iface t v=>by show and2 (Nat.beq t t) (avEq v v)=true;rw[Nat.beq_refl,avEq_refl v];rfl
 |.nilIface=>rfl
 |.agg l=>avEqL_refl l
 |.tup l=>avEqL_refl l
 |.map b=>by show Nat.beq b b=true;exact Nat.beq_refl b
 |.nilmap=>rfl
 |.rng k a b=>by show and2 (keq k k) (and2 (Nat.beq a a) (Nat.beq b b))=true;rw[(keq_iff k k).2 rfl,Nat.beq_refl,Nat.beq_refl];rfl
 |.sym k e=>by
  show and2 (keq k k) (seEq e e)=true
  rw[(keq_iff k k).2 rfl,seEq_refl e];rfl
theorem avEqL_refl:∀l:List AV,avEq (.agg l) (.agg l)=true
 | []=>rfl
 |a::l=>by
  show and2 (avEq a a) (avEq (.agg l) (.agg l))=true
  rw[avEq_refl a,avEqL_refl l];rfl
theorem seEq_refl:∀e:SE,seEq e e=true
 |.v i=>Nat.beq_refl i
 |.c i=>Nat.beq_refl i
 |.op o k x y=>by
  show and2 (Nat.beq (soN o) (soN o)) (and2 (keq k k) (and2 (seEq x x) (seEq y y)))=true
  rw[Nat.beq_refl,(keq_iff k k).2 rfl,seEq_refl x,seEq_refl y];rfl
 |.cv k l x=>by
  show and2 (keq k k) (and2 (keq l l) (seEq x x))=true
  rw[(keq_iff k k).2 rfl,(keq_iff l l).2 rfl,seEq_refl x];rfl
 |.pr x y=>by show and2 (seEq x x) (seEq y y)=true;rw[seEq_refl x,seEq_refl y];rfl
 |.app i x=>by show and2 (Nat.beq i i) (seEq x x)=true;rw[Nat.beq_refl,seEq_refl x];rfl
end
end
section
variable {P:Program} {nat:∀ [Deep],Nats} {PT:Plans} {n:Nat}
def RepL [Deep]:List H→List HN→Prop
 | [],[]=>True
 |h::hs,η::ηs=>Rep h η∧RepL hs ηs
 |_,_=>False
structure RecR [Deep] (P:Program) (r:Rec) (s:RecN):Prop where
 e:r.e=evOp P s.op
 fr:FrR r.fr s.φ
 v:r.v=s.v
 lo:r.lo=s.lo
 hi:r.hi=s.hi
 good:lall (goodO P) s.op.operands.toList=true
def RecL [Deep] (P:Program):List Rec→List RecN→Prop
 | [],[]=>True
 |r::rs,s::ss=>RecR P r s∧RecL P rs ss
 |_,_=>False
theorem RepL.len [Deep]:∀{hs:List H} {ηs:List HN},RepL hs ηs→llen hs=ηs.length
 | [],[],_=>rfl
 |_::hs,_::ηs,r=>congrArg Nat.succ (RepL.len r.2)
 | [],_::_,r=>r.elim
 |_::_,[],r=>r.elim
theorem sameIn_run {s:RecN}:∀{ηs:List HN} {k:Nat},sameInN P s ηs k→∃k0,∀ [Deep],k0≤Deep.d→∀(call:Caller) (hs:List H) (r:Rec),RepL hs ηs→RecR P r s→sameIn call r hs k=true
 | [],k,_=>⟨0,fun _ call hs r q _=>by
   cases hs with
   |nil=>rfl
   |cons _ _=>exact q.elim⟩
 |η::ηs,k,w=>by
  obtain⟨w1,w2⟩:=w
  obtain⟨k1,q1⟩:=sameIn_run w2
  by_cases hc:s.lo≤k∧k≤s.hi
  ·have w1:=w1 hc.1 hc.2
   unfold okV at w1
   split at w1
   ·rename_i v η' hr
    subst w1
    obtain⟨k2,q2⟩:=opR_ev hr
    refine⟨max k1 k2,fun hd call hs r q hrec=>?_⟩
    cases hs with
    |nil=>exact q.elim
    |cons h hs =>
     show ifB (and2 (Nat.ble r.lo k) (Nat.ble k r.hi)) (and2 (sameAt call r h) (sameIn call r hs (k-1))) (sameIn call r hs (k-1))=true
     rw[hrec.lo,hrec.hi,ble_true.2 hc.1,ble_true.2 hc.2,q1 (by omega) call hs r q.2 hrec]
     show and2 (sameAt call r h) true=true
     obtain⟨h',a,_⟩:=q2 (by omega) call r.fr h hrec.fr q.1
     have:sameAt call r h=true:=by
      unfold sameAt
      rw[hrec.e]
      unfold evOp
      rw[hrec.good,ifB_true,a]
      show avEq s.v r.v=true
      rw[hrec.v];exact avEq_refl _
     rw[this];rfl
   ·exact w1.elim
  ·refine⟨k1,fun hd call hs r q hrec=>?_⟩
   cases hs with
   |nil=>exact q.elim
   |cons h hs =>
    show ifB (and2 (Nat.ble r.lo k) (Nat.ble k r.hi)) (and2 (sameAt call r h) (sameIn call r hs (k-1))) (sameIn call r hs (k-1))=true
    have:and2 (Nat.ble r.lo k) (Nat.ble k r.hi)=false:=by
     rw[hrec.lo,hrec.hi]
     cases h1:Nat.ble s.lo k<;>cases h2:Nat.ble k s.hi<;>first|rfl|exact absurd ⟨ble_true.1 h1,ble_true.1 h2⟩ hc
    rw[this,ifB_false]
    exact q1 hd call hs r q.2 hrec
theorem same_run:∀{ss:List RecN} {ηs:List HN} {k:Nat},sameN P ηs k ss→∃k0,∀ [Deep],k0≤Deep.d→∀(call:Caller) (hs:List H) (rs:List Rec),RepL hs ηs→RecL P rs ss→sameAll call hs k rs=true
 | [],ηs,k,_=>⟨0,fun _ call hs rs _ q=>by
   cases rs with
   |nil=>rfl
   |cons _ _=>exact q.elim⟩
 |s::ss,ηs,k,w=>by
  obtain⟨k1,q1⟩:=sameIn_run w.1
  obtain⟨k2,q2⟩:=same_run w.2
  refine⟨max k1 k2,fun hd call hs rs q1' q2'=>?_⟩
  cases rs with
  |nil=>exact q2'.elim
  |cons r rs =>
   show and2 (sameIn call r hs k) (sameAll call hs k rs)=true
   rw[q1 (by omega) call hs r q1' q2'.1,q2 (by omega) call hs rs q1' q2'.2];rfl
theorem dkEq_ok {a b:DK} (h:dkEq a b=true):a=b:=by
 unfold dkEq at h
 split at h<;>first|rfl|skip
 ·obtain⟨h1,h2⟩:=Bool.and_eq_true_iff.1 h
  rw[beq_true.1 h1,beq_true.1 h2]
 ·cases h
theorem Rep.at_ [Deep] {h:H} {η:HN} (r:Rep h η) {k:Nat}:Rep ⟨k,h.m⟩ (η.at_ k):=⟨rfl,r.blk⟩
theorem op_run' {op:Op} {φ:FN} {η η':HN} {v:AV} (hg:lall (goodO P) op.operands.toList=true) (e:opR P op φ η=.ok v η') :
  ∃k0,∀ [Deep],k0≤Deep.d→∀call fr h,FrR fr φ→Rep h η→∃h',(evOp P op).f call fr h=.val v h'∧Rep h' η':=by
 have he:∀ [Deep],evOp P op=evOp0 P op:=by intro _;unfold evOp;rw[hg];rfl
 obtain⟨k0,q⟩:=opR_ev e
 exact⟨k0,fun hd call fr h hf r=>by rw[he];exact q hd call fr h hf r⟩
theorem stepD_eq [Deep] {all:List Oper} {bs:List Nat} {j:Nat} {o:Oper} {k:D}:stepD P n all bs j o k=(match o.guard with|none=>id|some g=>fun a=>dGuard (wantA all (some g)) a (dNot (putA n o.dst) (isCls (cls P o.op) .eff) k))
  (match cls P o.op with
   |.alloc=>dAlloc (evOp P o.op) (putA n o.dst) j k
   |.eff=>dEff (evOp P o.op) (putA n o.dst) k
   |.read=>ifB (calm P all bs j) (dPure (evOp P o.op) (putA n o.dst) k) (dRead (evOp P o.op) (putA n o.dst) (effLo P all bs j) (effHi P all bs j) k)
   |.pure=>dPure (evOp P o.op) (putA n o.dst) k):=by
 unfold stepD
 cases o.guard<;>rfl
theorem stepD_want [Deep] {all:List Oper} {bs:List Nat} {j:Nat} {o:Oper} {k:D} {call:Caller} {nx0:Nat} {fr:Fr} {φ:FN} {h:H} {hs:List H} {rs:List Rec} (hf:FrR fr φ) (hw:wantN all o.guard φ=true) :
  (stepD P n all bs j o k).f call nx0 fr h hs rs=(match cls P o.op with
   |.alloc=>dAlloc (evOp P o.op) (putA n o.dst) j k
   |.eff=>dEff (evOp P o.op) (putA n o.dst) k
   |.read=>ifB (calm P all bs j) (dPure (evOp P o.op) (putA n o.dst) k) (dRead (evOp P o.op) (putA n o.dst) (effLo P all bs j) (effHi P all bs j) k)
   |.pure=>dPure (evOp P o.op) (putA n o.dst) k).f call nx0 fr h hs rs:=by
 rw[stepD_eq]
 cases hg:o.guard with
 |none=>rfl
 |some g =>
  show ifB ((wantA all (some g)).f fr) _ _=_
  rw[want_N hf,←hg,hw];rfl
theorem stepD_not [Deep] {all:List Oper} {bs:List Nat} {j:Nat} {o:Oper} {k:D} {call:Caller} {nx0:Nat} {fr:Fr} {φ:FN} {h:H} {hs:List H} {rs:List Rec} (hf:FrR fr φ) (hw:wantN all o.guard φ=false) :
  (stepD P n all bs j o k).f call nx0 fr h hs rs=(dNot (putA n o.dst) (isCls (cls P o.op) .eff) k).f call nx0 fr h hs rs:=by
 rw[stepD_eq]
 cases hg:o.guard with
 |none=>rw[hg]at hw;cases hw
 |some g =>
  show ifB ((wantA all (some g)).f fr) _ _=_
  rw[want_N hf,←hg,hw];rfl
def RunD (P:Program) (nat:∀ [Deep],Nats) (n:Nat) (all:List Oper) (bs:List Nat) (nx0:Nat) (l:List Oper) (j:Nat) (φ:FN) (η:HN) (ηs:List HN) (ss:List RecN) (φ':FN) (η':HN):Prop :=
 ∃k0,∀ [Deep],k0≤Deep.d→k0≤Deep.loops→∀m,k0≤m→∀fr h hs rs,FrR fr φ→Rep h η→RepL hs ηs→RecL P rs ss→∃fr' h',(opsD P n all bs l j).f (callN P nat m) nx0 fr h hs rs=.ok .normal fr' h'∧FrR fr' φ'∧Rep h' η'
theorem drawN_run (hn:n≤512) (all:List Oper) (bs:List Nat) (K:FN→HN→Prop) (nx0:Nat):∀(l:List Oper) (plan:List DK) (j:Nat) (φ:FN) (η:HN) (ηs:List HN) (ss:List RecN),lall (operOk P n) l=true→planOk P all bs plan l j=true →
  drawN P (CallN P nat) all K nx0 plan l j φ η ηs ss→∃φ' η',K φ' η'∧RunD P nat n all bs nx0 l j φ η ηs ss φ' η'
 | [],[],j,φ,η,ηs,ss,_,_,w=>by
  unfold drawN at w
  obtain⟨w1,w2⟩:=w
  obtain⟨k0,q⟩:=same_run w1
  refine⟨φ,η,w2,k0,fun h1 h2 m hm fr h hs rs hf r r1 r2=>⟨fr,h,?_,hf,r⟩⟩
  show ifB (sameAll (callN P nat m) hs (Nat.sub (llen hs) 1) rs) (R.ok .normal fr h) (.fail 85)=_
  rw[r1.len,show Nat.sub ηs.length 1=ηs.length-1 from rfl,q h1 _ hs rs r1 r2];rfl
 | [],_::_,_,_,_,_,_,_,_,w=>by unfold drawN at w;exact w.elim
 |_::_,[],_,_,_,_,_,_,_,w=>by unfold drawN at w;exact w.elim
 |o::l,k::plan,j,φ,η,ηs,ss,ok,pk,w=>by
  have ok':=(lall_N _ _).1 ok
  obtain⟨g1,g2⟩:=Bool.and_eq_true_iff.1 (ok' o (by simp))
  obtain⟨d1,d2⟩:=dst_lt g2 hn
  have okl:lall (operOk P n) l=true:=(lall_N _ _).2 fun x hx=>ok' x (List.mem_cons_of_mem _ hx)
  obtain⟨p1,p2⟩:=Bool.and_eq_true_iff.1 (show(dkEq k (dkOf P all bs j o)&&planOk P all bs plan l (j+1))=true from pk)
  have p1:=dkEq_ok p1
  unfold drawN at w
  split at w
  ·rename_i hw
   -- what follows the operation
   have go:∀{v:AV} {η1:HN} {ηs':List HN} {ss':List RecN} {φ1:FN},drawN P (CallN P nat) all K nx0 plan l (j+1) φ1 η1 ηs' ss'→∃φ' η',K φ' η'∧RunD P nat n all bs nx0 l (j+1) φ1 η1 ηs' ss' φ' η':=fun w=>drawN_run hn all bs K nx0 l plan (j+1) _ _ _ _ okl p2 w
   cases hc:cls P o.op with
   |alloc =>
    have hk:k=.alloc:=by rw[p1];unfold dkOf;rw[hc]
    subst hk
    dsimp only at w
    split at w
    ·rename_i v η1 hr
     obtain⟨k0,q⟩:=op_run' g1 hr
     obtain⟨φ',η',hK,k1,q'⟩:=go (v:=v) w
     refine⟨φ',η',hK,max k0 k1,fun h1 h2 m hm fr h hs rs hf r r1 r2=>?_⟩
     obtain⟨h',a,b⟩:=q (by omega) (callN P nat m) fr ⟨nx0+j,h.m⟩ hf r.at_
     have b':Rep ⟨h.nx,h'.m⟩ (η1.at_ η.nx):=by rw[r.nx];exact b.at_
     obtain⟨fr2,h2',c,d,e⟩:=q' (by omega) (by omega) m (by omega) (frPut o.dst v fr) ⟨h.nx,h'.m⟩ hs rs (hf.putN d2 v) b' r1 r2
     refine⟨fr2,h2',?_,d,e⟩
     show(stepD P n all bs j o (opsD P n all bs l (j+1))).f (callN P nat m) nx0 fr h hs rs=_
     rw[stepD_want hf hw,hc]
     show rvk ((evOp P o.op).f (callN P nat m) fr ⟨nx0+j,h.m⟩) _ _=_
     rw[a]
     show(putA n o.dst).f v fr _=_
     rw[putA_eq d1];exact c
    ·exact w.elim
   |eff =>
    have hk:k=.eff:=by rw[p1];unfold dkOf;rw[hc]
    subst hk
    dsimp only at w
    obtain⟨v,η1,w,k0,q⟩:=op_run (k:=fun φ' η'=>drawN P (CallN P nat) all K nx0 plan l (j+1) φ' η' (η'::ηs) ss) g1 w
    obtain⟨φ',η',hK,k1,q'⟩:=go (v:=v) w
    refine⟨φ',η',hK,max k0 k1,fun h1 h2 m hm fr h hs rs hf r r1 r2=>?_⟩
    obtain⟨h',a,b⟩:=q (by omega) (by omega) m (by omega) fr h hf r
    obtain⟨fr2,h2',c,d,e⟩:=q' (by omega) (by omega) m (by omega) (frPut o.dst v fr) h' (h'::hs) rs (hf.putN d2 v) b ⟨b,r1⟩ r2
    refine⟨fr2,h2',?_,d,e⟩
    show(stepD P n all bs j o (opsD P n all bs l (j+1))).f (callN P nat m) nx0 fr h hs rs=_
    rw[stepD_want hf hw,hc]
    show rvk ((evOp P o.op).f (callN P nat m) fr h) _ _=_
    rw[a]
    show(putA n o.dst).f v fr _=_
    rw[putA_eq d1];exact c
   |pure =>
    have hk:k=.pure:=by rw[p1];unfold dkOf;rw[hc]
    subst hk
    dsimp only at w
    split at w
    ·rename_i v η1 hr
     obtain⟨k0,q⟩:=op_run' g1 hr
     obtain⟨φ',η',hK,k1,q'⟩:=go (v:=v) w
     refine⟨φ',η',hK,max k0 k1,fun h1 h2 m hm fr h hs rs hf r r1 r2=>?_⟩
     obtain⟨h',a,b⟩:=q (by omega) (callN P nat m) fr h hf r
     obtain⟨fr2,h2',c,d,e⟩:=q' (by omega) (by omega) m (by omega) (frPut o.dst v fr) h' hs rs (hf.putN d2 v) b r1 r2
     refine⟨fr2,h2',?_,d,e⟩
     show(stepD P n all bs j o (opsD P n all bs l (j+1))).f (callN P nat m) nx0 fr h hs rs=_
     rw[stepD_want hf hw,hc]
     show rvk ((evOp P o.op).f (callN P nat m) fr h) _ _=_
     rw[a]
     show(putA n o.dst).f v fr _=_
     rw[putA_eq d1];exact c
    ·exact w.elim
   |read =>
    cases hcalm:calm P all bs j with
    |true =>
     have hk:k=.pure:=by rw[p1];unfold dkOf;rw[hc];dsimp only;rw[hcalm];rfl
     subst hk
     dsimp only at w
     split at w
     ·rename_i v η1 hr
      obtain⟨k0,q⟩:=op_run' g1 hr
      obtain⟨φ',η',hK,k1,q'⟩:=go (v:=v) w
      refine⟨φ',η',hK,max k0 k1,fun h1 h2 m hm fr h hs rs hf r r1 r2=>?_⟩
      obtain⟨h',a,b⟩:=q (by omega) (callN P nat m) fr h hf r
      obtain⟨fr2,h2',c,d,e⟩:=q' (by omega) (by omega) m (by omega) (frPut o.dst v fr) h' hs rs (hf.putN d2 v) b r1 r2
      refine⟨fr2,h2',?_,d,e⟩
      show(stepD P n all bs j o (opsD P n all bs l (j+1))).f (callN P nat m) nx0 fr h hs rs=_
      rw[stepD_want hf hw,hc]
      dsimp only
      rw[hcalm,ifB_true]
      show rvk ((evOp P o.op).f (callN P nat m) fr h) _ _=_
      rw[a]
      show(putA n o.dst).f v fr _=_
      rw[putA_eq d1];exact c
     ·exact w.elim
    |false =>
     have hk:k=.read (effLo P all bs j) (effHi P all bs j):=by rw[p1];unfold dkOf;rw[hc];dsimp only;rw[hcalm];rfl
     subst hk
     dsimp only at w
     split at w
     ·rename_i v η1 hr
      obtain⟨k0,q⟩:=op_run' g1 hr
      obtain⟨φ',η',hK,k1,q'⟩:=go (v:=v) w
      refine⟨φ',η',hK,max k0 k1,fun h1 h2 m hm fr h hs rs hf r r1 r2=>?_⟩
      obtain⟨h',a,b⟩:=q (by omega) (callN P nat m) fr h hf r
      obtain⟨fr2,h2',c,d,e⟩:=q' (by omega) (by omega) m (by omega) (frPut o.dst v fr) h' hs (⟨evOp P o.op,fr,v,effLo P all bs j,effHi P all bs j⟩::rs) (hf.putN d2 v) b r1 ⟨⟨rfl,hf,rfl,rfl,rfl,g1⟩,r2⟩
      refine⟨fr2,h2',?_,d,e⟩
      show(stepD P n all bs j o (opsD P n all bs l (j+1))).f (callN P nat m) nx0 fr h hs rs=_
      rw[stepD_want hf hw,hc]
      dsimp only
      rw[hcalm,ifB_false]
      show rvk ((evOp P o.op).f (callN P nat m) fr h) _ _=_
      rw[a]
      show(putA n o.dst).f v fr _=_
      rw[putA_eq d1];exact c
     ·exact w.elim
  ·rename_i hw
   obtain⟨φ',η',hK,k1,q'⟩:=drawN_run hn all bs K nx0 l plan (j+1) _ _ _ _ okl p2 w
   refine⟨φ',η',hK,k1,fun h1 h2 m hm fr h hs rs hf r r1 r2=>?_⟩
   have hhs:RepL (ifB (isCls (cls P o.op) .eff) (h::hs) hs) (effL k η ηs):=by
    have e:effL k η ηs=effL (dkOf P all bs j o) η ηs:=by rw[←p1]
    rw[e]
    unfold dkOf
    cases hc:cls P o.op with
    |alloc=>exact r1
    |eff=>exact⟨r,r1⟩
    |pure=>exact r1
    |read=>dsimp only;cases calm P all bs j<;>exact r1
   obtain⟨fr2,h2',c,d,e⟩:=q' h1 h2 m hm (frPut o.dst und fr) h _ rs (hf.putN d2 und) r hhs r2
   refine⟨fr2,h2',?_,d,e⟩
   show(stepD P n all bs j o (opsD P n all bs l (j+1))).f (callN P nat m) nx0 fr h hs rs=_
   rw[stepD_not hf hw]
   show(putA n o.dst).f und fr _=_
   rw[putA_eq d1];exact c
theorem anyAl_ok {all:List Oper} {bs:List Nat}:∀{l:List Oper} {plan:List DK} {j:Nat},planOk P all bs plan l j=true→anyAl plan=l.any fun o=>isCls (cls P o.op) .alloc
 | [],[],_,_=>rfl
 | [],_::_,_,h=>by cases h
 |_::_,[],_,h=>by cases h
 |o::l,k::plan,j,h=>by
  obtain⟨p1,p2⟩:=Bool.and_eq_true_iff.1 (show(dkEq k (dkOf P all bs j o)&&planOk P all bs plan l (j+1))=true from h)
  have ih:=anyAl_ok p2
  rw[dkEq_ok p1,List.any_cons,←ih]
  unfold dkOf
  cases hc:cls P o.op with
  |alloc=>rfl
  |eff=>rfl
  |pure=>rfl
  |read=>dsimp only;cases calm P all bs j<;>rfl
theorem start_run (hn:n≤512) {id:Nat} {ops:Array Oper} {K:FN→HN→Prop} {φ:FN} {η:HN} {plan:List DK} (ok:lall (operOk P n) ops.toList=true) (pk:planOk P ops.toList (befs ops.toList) plan ops.toList 0=true)
  (w:startN P (CallN P nat) plan ops.toList K φ η):∃φ' η',K φ' η'∧RunC P nat (kDraw P n ops.toList) φ η .normal φ' η':=by
 unfold startN at w
 obtain⟨φ',η',hK,k0,q⟩:=drawN_run hn ops.toList (befs ops.toList) K η.nx ops.toList plan 0 φ _ _ _ ok pk w
 refine⟨φ',η',hK,k0,fun h1 h2 m hm fr h hf r=>?_⟩
 have hnx:Nat.add h.nx (resN P ops.toList)=if anyAl plan then η.nx+ops.toList.length else η.nx:=by
  unfold resN
  rw[anyAl_ok pk,r.nx,llen_eq]
  cases (ops.toList.any fun o=>isCls (cls P o.op) .alloc)<;>rfl
 have r':Rep ⟨Nat.add h.nx (resN P ops.toList),h.m⟩ (η.at_ (if anyAl plan then η.nx+ops.toList.length else η.nx)):=by rw[hnx];exact r.at_
 obtain⟨fr',h',a,b,c⟩:=q h1 h2 m hm fr _ [_] [] hf r' ⟨r',trivial⟩ trivial
 refine⟨fr',h',?_,b,c⟩
 show forceN (Nat.add h.nx (resN P ops.toList)) _=_
 rw[forceN_eq]
 show(opsD P n ops.toList (befs ops.toList) ops.toList 0).f (callN P nat m) h.nx fr _ _ _=_
 rw[r.nx]at a ⊢
 exact a
theorem wpN_run (hn:n≤512):∀(c:Code) (K:Kont) (φ:FN) (η:HN),okC P n PT c=true→wpN P (CallN P nat) PT c K φ η→∃e φ' η',K e φ' η'∧RunC P nat (evC P n c) φ η e φ' η'
 |.skip,K,φ,η,_,w=>⟨.normal,φ,η,w,0,fun _ _ m _ fr h hf r=>⟨fr,h,rfl,hf,r⟩⟩
 |.exit i,K,φ,η,_,w=>⟨.exit i,φ,η,w,0,fun _ _ m _ fr h hf r=>⟨fr,h,rfl,hf,r⟩⟩
 |.ret,K,φ,η,_,w=>⟨.ret,φ,η,w,0,fun _ _ m _ fr h hf r=>⟨fr,h,rfl,hf,r⟩⟩
 |.rangeFunc _ _ _ _,_,_,_,_,w=>w.elim
 |.scope _,_,_,_,_,w=>w.elim
 |.label _,_,_,_,_,w=>w.elim
 |.goto _,_,_,_,_,w=>w.elim
 |.refuse _,_,_,_,_,w=>w.elim
 |.region id ops false,K,φ,η,ok,w=>by
  obtain⟨o1,_⟩:=Bool.and_eq_true_iff.1 (show(lall (operOk P n) ops.toList&&true)=true from ok)
  obtain⟨φ',η',hK,q⟩:=wpOps_run hn ops.toList ops.toList (K .normal) φ η o1 w
  exact⟨.normal,φ',η',hK,q⟩
 |.region id ops true,K,φ,η,ok,w=>by
  obtain⟨o1,o2⟩:=Bool.and_eq_true_iff.1 (show(lall (operOk P n) ops.toList&&planOk P ops.toList (befs ops.toList) (PT id) ops.toList 0)=true from ok)
  obtain⟨φ',η',hK,q⟩:=start_run (id:=id) hn o1 o2 w
  exact⟨.normal,φ',η',hK,q⟩
 |.seq a b,K,φ,η,ok,w=>by
  obtain⟨o1,o2⟩:=Bool.and_eq_true_iff.1 (show(okC P n PT a&&okC P n PT b)=true from ok)
  obtain⟨e,φ1,η1,w,k0,q⟩:=wpN_run hn a _ φ η o1 w
  cases e with
  |normal =>
   obtain⟨e,φ',η',hK,k1,q'⟩:=wpN_run hn b K φ1 η1 o2 w
   refine⟨e,φ',η',hK,max k0 k1,fun h1 h2 m hm fr h hf r=>?_⟩
   obtain⟨fr1,h',a1,a2,a3⟩:=q (by omega) (by omega) m (by omega) fr h hf r
   obtain⟨fr2,h2',b1,b2,b3⟩:=q' (by omega) (by omega) m (by omega) fr1 h' a2 a3
   refine⟨fr2,h2',?_,b2,b3⟩
   show Rk ((evC P n a).f _ fr h) _=_
   rw[a1];exact b1
  |exit i =>
   refine⟨.exit i,φ1,η1,w,k0,fun h1 h2 m hm fr h hf r=>?_⟩
   obtain⟨fr1,h',a1,a2,a3⟩:=q h1 h2 m hm fr h hf r
   refine⟨fr1,h',?_,a2,a3⟩
   show Rk ((evC P n a).f _ fr h) _=_
   rw[a1];rfl
  |ret =>
   refine⟨.ret,φ1,η1,w,k0,fun h1 h2 m hm fr h hf r=>?_⟩
   obtain⟨fr1,h',a1,a2,a3⟩:=q h1 h2 m hm fr h hf r
   refine⟨fr1,h',?_,a2,a3⟩
   show Rk ((evC P n a).f _ fr h) _=_
   rw[a1];rfl
 |.cond c a b,K,φ,η,ok,w=>by
  obtain⟨o0,ok⟩:=Bool.and_eq_true_iff.1 (show(condOk c&&(okC P n PT a&&okC P n PT b))=true from ok)
  obtain⟨o1,o2⟩:=Bool.and_eq_true_iff.1 ok
  have w:condN (opd φ c) (wpN P (CallN P nat) PT a K) (wpN P (CallN P nat) PT b K) φ η:=w
  unfold condN at w
  split at w
  ·rename_i hc
   obtain⟨e,φ',η',hK,k0,q⟩:=wpN_run hn a K φ η o1 w
   refine⟨e,φ',η',hK,k0,fun h1 h2 m hm fr h hf r=>?_⟩
   obtain⟨fr1,h',a1,a2,a3⟩:=q h1 h2 m hm fr h hf r
   refine⟨fr1,h',?_,a2,a3⟩
   show(kCond c (evC P n a) (evC P n b)).f _ fr h=_
   cases c with
   |tmp t =>
    show asBool (slot fr t) _ _=_
    rw[hf t,show φ t=.bool true from hc];exact a1
   |const v =>
    cases v<;>first|(cases o0;done)|skip
    rename_i b0
    cases b0<;>first|exact a1|cases (show AV.bool false=.bool true from hc)
   |global g=>cases (show AV.ptr g 0=.bool true from hc)
   |func f=>cases (show AV.func f [] []=.bool true from hc)
  ·rename_i hc
   obtain⟨e,φ',η',hK,k0,q⟩:=wpN_run hn b K φ η o2 w
   refine⟨e,φ',η',hK,k0,fun h1 h2 m hm fr h hf r=>?_⟩
   obtain⟨fr1,h',a1,a2,a3⟩:=q h1 h2 m hm fr h hf r
   refine⟨fr1,h',?_,a2,a3⟩
   show(kCond c (evC P n a) (evC P n b)).f _ fr h=_
   cases c with
   |tmp t =>
    show asBool (slot fr t) _ _=_
    rw[hf t,show φ t=.bool false from hc];exact a1
   |const v =>
    cases v<;>first|(cases o0;done)|skip
    rename_i b0
    cases b0<;>first|exact a1|cases (show AV.bool true=.bool false from hc)
   |global g=>cases (show AV.ptr g 0=.bool false from hc)
   |func f=>cases (show AV.func f [] []=.bool false from hc)
  ·exact w.elim
 |.block i b,K,φ,η,ok,w=>by
  obtain⟨e,φ1,η1,w,k0,q⟩:=wpN_run hn b _ φ η ok w
  cases e with
  |normal =>
   refine⟨.normal,φ1,η1,w,k0,fun h1 h2 m hm fr h hf r=>?_⟩
   obtain⟨fr1,h',a1,a2,a3⟩:=q h1 h2 m hm fr h hf r
   refine⟨fr1,h',?_,a2,a3⟩
   show Rk ((evC P n b).f _ fr h) _=_
   rw[a1];rfl
  |ret =>
   refine⟨.ret,φ1,η1,w,k0,fun h1 h2 m hm fr h hf r=>?_⟩
   obtain⟨fr1,h',a1,a2,a3⟩:=q h1 h2 m hm fr h hf r
   refine⟨fr1,h',?_,a2,a3⟩
   show Rk ((evC P n b).f _ fr h) _=_
   rw[a1];rfl
  |exit j =>
   have w:(if j=i then K .normal φ1 η1 else K (.exit j) φ1 η1):=w
   by_cases hj:j=i
   ·rw[if_pos hj]at w
    refine⟨.normal,φ1,η1,w,k0,fun h1 h2 m hm fr h hf r=>?_⟩
    obtain⟨fr1,h',a1,a2,a3⟩:=q h1 h2 m hm fr h hf r
    refine⟨fr1,h',?_,a2,a3⟩
    show Rk ((evC P n b).f _ fr h) _=_
    rw[a1]
    show ifB (Nat.beq j i) _ _=_
    rw[beq_true.2 hj];rfl
   ·rw[if_neg hj]at w
    refine⟨.exit j,φ1,η1,w,k0,fun h1 h2 m hm fr h hf r=>?_⟩
    obtain⟨fr1,h',a1,a2,a3⟩:=q h1 h2 m hm fr h hf r
    refine⟨fr1,h',?_,a2,a3⟩
    show Rk ((evC P n b).f _ fr h) _=_
    rw[a1]
    show ifB (Nat.beq j i) _ _=_
    rw[beq_false.2 hj];rfl
 |.loop b,K,φ,η,ok,w=>by
  obtain⟨cnt,w⟩:=w
  have key:∀(cnt:Nat) (φ:FN) (η:HN),loopW (wpN P (CallN P nat) PT b) cnt K φ η→∃e φ' η',K e φ' η'∧∃k0,∀ [Deep],k0≤Deep.d→k0≤Deep.loops→∀m,k0≤m→∀q,cnt≤q→∀fr h,FrR fr φ→Rep h η→∃fr' h',loopN (evC P n b) q (callN P nat m) fr h=.ok e fr' h'∧FrR fr' φ'∧Rep h' η':=by
   intro cnt
   induction cnt with
   |zero=>intro φ η w;exact w.elim
   |succ cnt ih =>
    intro φ η w
    obtain⟨e,φ1,η1,w,k0,q⟩:=wpN_run hn b _ φ η ok w
    cases e with
    |normal =>
     obtain⟨e,φ',η',hK,k1,q'⟩:=ih φ1 η1 w
     refine⟨e,φ',η',hK,max k0 k1,fun h1 h2 m hm c hc fr h hf r=>?_⟩
     obtain⟨c,rfl⟩:∃c',c=c'+1:=⟨c-1,by omega⟩
     obtain⟨fr1,h',a1,a2,a3⟩:=q (by omega) (by omega) m (by omega) fr h hf r
     obtain⟨fr2,h2',b1,b2,b3⟩:=q' (by omega) (by omega) m (by omega) c (by omega) fr1 h' a2 a3
     refine⟨fr2,h2',?_,b2,b3⟩
     show Rk ((evC P n b).f _ fr h) _=_
     rw[a1];exact b1
    |exit i =>
     refine⟨.exit i,φ1,η1,w,k0,fun h1 h2 m hm c hc fr h hf r=>?_⟩
     obtain⟨c,rfl⟩:∃c',c=c'+1:=⟨c-1,by omega⟩
     obtain⟨fr1,h',a1,a2,a3⟩:=q h1 h2 m hm fr h hf r
     refine⟨fr1,h',?_,a2,a3⟩
     show Rk ((evC P n b).f _ fr h) _=_
     rw[a1];rfl
    |ret =>
     refine⟨.ret,φ1,η1,w,k0,fun h1 h2 m hm c hc fr h hf r=>?_⟩
     obtain⟨c,rfl⟩:∃c',c=c'+1:=⟨c-1,by omega⟩
     obtain⟨fr1,h',a1,a2,a3⟩:=q h1 h2 m hm fr h hf r
     refine⟨fr1,h',?_,a2,a3⟩
     show Rk ((evC P n b).f _ fr h) _=_
     rw[a1];rfl
  obtain⟨e,φ',η',hK,k0,q⟩:=key cnt φ η w
  refine⟨e,φ',η',hK,max k0 cnt,fun h1 h2 m hm fr h hf r=>?_⟩
  exact q (by omega) (by omega) m (by omega) Deep.loops (by omega) fr h hf r
end
end Go.Eng
