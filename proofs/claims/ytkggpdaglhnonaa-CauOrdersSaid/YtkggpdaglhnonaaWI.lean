/- What is proved: a calculus for the model's code over frames that are functions and heaps that are told by lists is sound for the evaluator. Conditions: none. -/
import Derived.Test.YtkggpdaglhnonaaWH
set_option linter.unusedVariables false
set_option linter.unusedSimpArgs false
set_option linter.unusedSectionVars false
namespace Go.Eng
set_option autoImplicit false
noncomputable section
inductive BN where
 |none
 |live (ro:Bool) (l:List AV)
 |mp (es:List (AV×AV))
structure HN where
 nx:Nat
 f:Nat→BN
abbrev FN:=Nat→AV
def HN.put (η:HN) (b:Nat) (y:BN):HN:=⟨η.nx,fun b'=>if b'=b then y else η.f b'⟩
def HN.new (η:HN) (y:BN):HN:=⟨η.nx+1,fun b'=>if b'=η.nx then y else η.f b'⟩
def upd (φ:FN) (d:Nat) (v:AV):FN:=fun t=>if t=d then v else φ t
def putN (d:Option Nat) (v:AV) (φ:FN):FN:=match d with|none=>φ|some d=>upd φ d v
inductive RES where
 |no
 |ok (v:AV) (η:HN)
 |call (f:FuncId) (args:List AV)
def cvD (o:Option AV):AV:=match o with|some a=>a|none=>und
def opd (φ:FN) (o:Operand):AV:=match o with
 |.tmp t=>φ t
 |.const v=>cvD (cv v)
 |.global g=>.ptr g 0
 |.func f=>.func f [] []
def zqM (φ:FN) (o:Option Operand):Option AV:=match o with|none=>none|some x=>some (opd φ x)
def zbX (x:AV):Option (List AV):=match x with|.agg l=>some l|.tup _=>none|x=>some [x]
def zbx (l:List AV) (i:Nat):List AV→List AV
 | []=>l
 |a::r=>zbx (l.set i a) (i+1) r
def okO (o:Option AV) (η:HN):RES:=match o with|some v=>.ok v η|none=>.no
def okI (c:Bool) (r:RES):RES:=match c with|true=>r|false=>.no
def zpi (op:BinOp) (k:IntKind) (a:Nat) (k':IntKind) (b:Nat):Option AV:=match op with
 |.shl=>if nneg k' b then some (.int k (ztf k a (min b (zfS k)))) else none
 |.shr=>if nneg k' b then some (.int k (zte k a (min b (zfS k)))) else none
 |.add=>if keq k k' then some (.int k ((a+b)%zaH k)) else none
 |.sub=>if keq k k' then some (.int k ((a+(zaH k-b))%zaH k)) else none
 |.mul=>if keq k k' then some (.int k ((a*b)%zaH k)) else none
 |.quo=>if keq k k' then(if b=0 then none else some (.int k (zv1 k a b))) else none
 |.rem=>if keq k k' then(if b=0 then none else some (.int k (zvZ k a b))) else none
 |.and=>if keq k k' then some (.int k (a &&& b)) else none
 |.or=>if keq k k' then some (.int k (a ||| b)) else none
 |.xor=>if keq k k' then some (.int k (a ^^^ b)) else none
 |.andNot=>if keq k k' then some (.int k (a &&& (zaH k-1-b))) else none
 |.eql=>if keq k k' then some (.bool (a == b)) else none
 |.neq=>if keq k k' then some (.bool (!(a == b))) else none
 |.lss=>if keq k k' then some (.bool (ltN k a b)) else none
 |.leq=>if keq k k' then some (.bool (!ltN k b a)) else none
 |.gtr=>if keq k k' then some (.bool (ltN k b a)) else none
 |.geq=>if keq k k' then some (.bool (!ltN k a b)) else none
def strN (op:BinOp) (n v m w:Nat):Option AV:=match op with
 |.add=>if n+m≤9223372036854775807 then some (.str (n+m) (zk3 n v w)) else none
 |.eql=>some (.bool (zaC n v m w))
 |.neq=>some (.bool (!zaC n v m w))
 |.lss=>some (.bool (zhE n v m w))
 |.leq=>some (.bool (ifB (zhE n v m w) true (zaC n v m w)))
 |.gtr=>some (.bool (!ifB (zhE n v m w) true (zaC n v m w)))
 |.geq=>some (.bool (!zhE n v m w))
 |_=>none
def zma (neg:Bool) (o:Option Bool):Option AV:=match o with|some b=>some (.bool (if neg then !b else b))|none=>none
def eqN (P:Program) (op:BinOp) (t:TypeId) (nl:Bool) (x y:AV):Option AV:=if zew P t nl then(match op with
 |.eql=>zma false ((eqB P t).f x y)
 |.neq=>zma true ((eqB P t).f x y)
 |_=>none) else none
def zsP (P:Program) (op:BinOp) (t:TypeId) (nl:Bool) (x y:AV):Option AV:=match x,y with
 |.int k a,.int k' b=>zpi op k a k' b
 |.str n v,.str m w=>strN op n v m w
 |.bool a,y=>eqN P op t nl (.bool a) y
 |.nilptr,y=>eqN P op t nl .nilptr y
 |.ptr b o,y=>eqN P op t nl (.ptr b o) y
 |.nilslice,y=>eqN P op t nl .nilslice y
 |.slice b o l c,y=>eqN P op t nl (.slice b o l c) y
 |.nilFunc,y=>eqN P op t nl .nilFunc y
 |.func f a b,y=>eqN P op t nl (.func f a b) y
 |.agg l,y=>eqN P op t nl (.agg l) y
 |_,_=>none
def unN (op:UnOp) (x:AV):Option AV:=match op,x with
 |.neg,.int k a=>some (.int k ((zaH k-a)%zaH k))
 |.xor,.int k a=>some (.int k (zaH k-1-a))
 |.not,.bool b=>some (.bool (!b))
 |_,_=>none
def cvtN (k' k:IntKind) (a:Nat):Nat:=if nneg k a then a%zaH k' else res k' (sgn k a)
def ldC (o:Option AV) (η:HN):RES:=okO o η
def ldB (agg:Bool) (s off:Nat) (x:BN) (η:HN):RES:=match x with
 |.live _ l=>(match agg with
  |true=>if off+s≤l.length then .ok (.agg ((l.drop off).take s)) η else .no
  |false=>ldC l[off]? η)
 |_=>.no
def ldP (ty:Option (Nat×Nat×Bool)) (x:AV) (η:HN):RES:=match ty,x with
 |some (s,_,agg),.ptr b off=>ldB agg s off (η.f b) η
 |_,_=>.no
def stB (s b off:Nat) (cs:List AV) (x:BN) (η:HN):RES:=match x with
 |.live false l=>if cs.length=s∧off+s≤l.length then .ok und (η.put b (.live false (zbx l off cs))) else .no
 |_=>.no
def stV (s b off:Nat) (cs:Option (List AV)) (x:BN) (η:HN):RES:=match cs with|some l=>stB s b off l x η|none=>.no
def stP (ty:Option (Nat×Nat×Bool)) (x v:AV) (η:HN):RES:=match ty,x with
 |some (s,_,_),.ptr b off=>stV s b off (zbX v) (η.f b) η
 |_,_=>.no
def zu2 (o:Option (List AV)) (η:HN):RES:=match o with|some l=>.ok (.ptr η.nx 0) (η.new (.live false l))|none=>.no
def zkW (i:AV) (k:Nat→RES):RES:=match i with|.int kd a=>if nneg kd a then k a else .no|_=>.no
def fldN (fd:Option FD) (x:AV) (η:HN):RES:=match fd,x with
 |some fd,.agg cs=>okO (zc7 fd.agg fd.size cs fd.off) η
 |_,_=>.no
def zpr (fd:Option FD) (x:AV) (η:HN):RES:=match fd,x with
 |some fd,.ptr b off=>if fd.size=0 then .no else .ok (.ptr b (off+fd.off)) η
 |_,_=>.no
def zvc (td:TD) (f:Nat):Option FD:=match td with|.struct fs=>fs[f]?|_=>none
def iaN (td:TD) (x i:AV) (η:HN):RES:=match td,x with
 |.slice _ s _,.slice b off len _=>zkW i fun i=>if i<len then .ok (.ptr b (off+i*s)) η else .no
 |.array n _ s _,.ptr b off=>zkW i fun i=>if i<n then .ok (.ptr b (off+i*s)) η else .no
 |_,_=>.no
def ixN (td:TD) (x i:AV) (η:HN):RES:=match td,x with
 |.str,.str n v=>zkW i fun i=>if i<n then .ok (.int .u8 (zhc v i)) η else .no
 |.array n _ s a,.agg cs=>zkW i fun i=>if i<n then okO (zc7 a s cs (i*s)) η else .no
 |_,_=>.no
def exN (x:AV) (i:Nat) (η:HN):RES:=match x with|.tup l=>okO l[i]? η|_=>.no
def zgL (φ:FN) (place:Nat→Option (Nat×Nat)):List (Nat×Operand)→List AV→Option (List AV)
 | [],cs=>some cs
 |p::r,cs=>match place p.1,zbX (opd φ p.2) with
  |some (o,s),some l=>if l.length=s∧o+s≤cs.length then zgL φ place r (zbx cs o l) else none
  |_,_=>none
def aggO (o:Option (List AV)) (η:HN):RES:=match o with|some l=>.ok (.agg l) η|none=>.no
def zxv (td:TD) (z:Option AV) (φ:FN) (parts:List (Nat×Operand)) (η:HN):RES:=match td,z with
 |.array _ _ s _,some z=>aggO (zgL φ (fun i=>some (i*s,s)) parts (zaX z)) η
 |.struct fs,some z=>aggO (zgL φ (fieldPlace fs) parts (zaX z)) η
 |_,_=>.no
def slO (len:Nat) (o:Option (List AV)) (η:HN):RES:=match o with|some l=>.ok (.slice η.nx 0 len (.kn len)) (η.new (.live false l))|none=>.no
def ziV (n:Nat) (l:List AV):List AV:=(List.replicate n l).flatten
def zvr (P:Program) (td:TD) (len:Nat) (φ:FN) (parts:List (Nat×Operand)) (η:HN):RES:=match td with
 |.slice el s _=>if len*s=0 then(match parts with | []=>slO len (some []) η|_=>.no)
   else if len*s≤16777216 then(match zaS P el with|some z=>slO len (zgL φ (fun i=>some (i*s,s)) parts (ziV len (zaX z))) η|none=>.no) else .no
 |_=>.no
def zwS (P:Program) (td:TD) (l c:AV) (η:HN):RES:=match td with
 |.slice el _ bytes=>(match zaS P el with
  |some z=>zkW l fun l=>zkW c fun c=>if l≤c∧bytes≠0∧c*bytes≤140737488355328 then .ok (.slice η.nx 0 l (.kn c)) (η.new (.live false (ziV c (zaX z)))) else .no
  |none=>.no)
 |_=>.no
def zur (o:Option AV) (d:Nat) (k:Nat→RES):RES:=match o with|none=>k d|some v=>zkW v k
def zfQ (lo hi:Option AV) (len top:Nat) (k:Nat→Nat→RES):RES:=zur lo 0 fun l=>zur hi len fun hh=>if l≤hh∧hh≤top then k l hh else .no
def ziX (b off l hh c s:Nat) (η:HN):RES:=if c=l then .ok (.slice b off 0 (.kn 0)) η else .ok (.slice b (off+l*s) (hh-l) (.kn (c-l))) η
def zsM (lo hi:Option AV) (b off len:Nat) (cap:Cp) (η:HN) (r:RES):RES:=match lo,hi with|none,some y=>zkW y fun m=>if m≤len then .ok (.slice b off m cap) η else r|_,_=>r
def slN (td:TD) (x:AV) (lo hi mx:Option AV) (η:HN):RES:=match td,x,mx with
 |.str,.str n v,none=>zfQ lo hi n n fun l hh=>.ok (.str (hh-l) (zdW v l (hh-l))) η
 |.slice _ s _,.nilslice,none=>zfQ lo hi 0 0 fun _ _=>.ok .nilslice η
 |.slice _ s _,.nilslice,some m=>zkW m fun m=>if m=0 then zfQ lo hi 0 0 fun _ _=>.ok .nilslice η else .no
 |.slice _ s _,.slice b off len (.kn c),none=>zsM lo hi b off len (.kn c) η (zfQ lo hi len c fun l hh=>ziX b off l hh c s η)
 |.slice _ s _,.slice b off len (.kn c),some m=>zkW m fun m=>if m≤c then zfQ lo hi len m fun l hh=>ziX b off l hh m s η else .no
 |.slice _ s _,.slice b off len (.un es),none=>zsM lo hi b off len (.un es) η (if es=s then zfQ lo hi len len fun l hh=>.ok (.slice b (off+l*s) (hh-l) (.un s)) η else .no)
 |.slice _ s _,.slice b off len (.un es),some m=>if es=s then zkW m fun m=>if m≤len then zfQ lo hi len m fun l hh=>ziX b off l hh m s η else .no else .no
 |.array n _ s _,.ptr b off,none=>zfQ lo hi n n fun l hh=>ziX b off l hh n s η
 |_,_,_=>.no
def zpa (n:Nat) (η:HN):RES:=if n≤9223372036854775807 then .ok (.int .i64 n) η else .no
def zlH (td:TD) (x:AV) (η:HN):RES:=match td,x with
 |.str,.str n _=>zpa n η
 |.slice _ _ _,.nilslice=>zpa 0 η
 |.slice _ _ _,.slice _ _ n _=>zpa n η
 |.array n _ _ _,_=>zpa n η
 |_,_=>.no
def capN (td:TD) (x:AV) (η:HN):RES:=match td,x with
 |.slice _ _ _,.nilslice=>zpa 0 η
 |.slice _ _ _,.slice _ _ _ (.kn c)=>zpa c η
 |_,_=>.no
def zsN (x:BN) (off n:Nat):Option (List AV):=match x with|.live _ l=>if off+n≤l.length then some ((l.drop off).take n) else none|_=>none
def ziL (m s:Nat) (o:Option (List AV)) (new:List AV) (η:HN):RES:=match o with|some old=>.ok (.slice η.nx 0 m (.un s)) (η.new (.live false (old++new)))|none=>.no
def zsB (b off len s n c:Nat) (new:List AV) (x:BN) (η:HN):RES:=if len+n≤c then
  (match x with|.live false l=>if off+len*s+n*s≤l.length then .ok (.slice b off (len+n) (.kn c)) (η.put b (.live false (zbx l (off+len*s) new))) else .no|_=>.no)
 else ziL (len+n) s (zsN x off (len*s)) new η
def zsQ (b off len s n:Nat) (new:List AV) (x:BN) (η:HN):RES:=match x with
 |.live false l=>if off+len*s+n*s≤l.length then .ok (.slice b off (len+n) (.un s)) (η.put b (.live false (zbx l (off+len*s) new)))
   else if off+len*s=l.length∧new.length=n*s then .ok (.slice η.nx 0 (len+n) (.un s)) ((η.put b .none).new (.live false (l.drop off++new)))
   else if off+len*s≤l.length∧new.length=n*s then .ok (.slice η.nx 0 (len+n) (.un s)) ((η.put b .none).new (.live false ((l.drop off).take (len*s)++new))) else .no
 |_=>.no
def apN (s bytes:Nat) (x:AV) (n:Nat) (new:List AV) (η:HN):RES:=match x with
 |.nilslice=>if n=0 then .ok .nilslice η else if n*bytes≤140737488355328 then .ok (.slice η.nx 0 n (.un s)) (η.new (.live false new)) else .no
 |.slice b off len cap=>if(len+n)*bytes≤140737488355328 then(if n=0 then .ok (.slice b off len cap) η else(match cap with
  |.kn c=>zsB b off len s n c new (η.f b) η
  |.un es=>if es=s then zsQ b off len s n new (η.f b) η else .no)) else .no
 |_=>.no
def zsA (s bytes:Nat) (x:AV) (n:Nat) (o:Option (List AV)) (η:HN):RES:=match o with|some l=>apN s bytes x n l η|none=>.no
def zb5 (s bytes:Nat) (x y:AV) (η:HN):RES:=match y with
 |.str n v=>if s=1 then apN s bytes x n (byteCells n v) η else .no
 |.nilslice=>apN s bytes x 0 [] η
 |.slice b off len _=>if len=0 then apN s bytes x 0 [] η else zsA s bytes x len (zsN (η.f b) off (len*s)) η
 |_=>.no
def zxy (P:Program) (td td2:TD) (x y:AV) (η:HN):RES:=match td,td2 with
 |.slice el s bytes,.int _=>if s*bytes=0 then .no else(match zaS P el with|some z=>zkW y fun n=>if n*bytes≤140737488355328 then apN s bytes x n (ziV n (zaX z)) η else .no|none=>.no)
 |.slice el s bytes,.str=>if s*bytes=0 then .no else(match zaS P el with|some _=>zb5 s bytes x y η|none=>.no)
 |.slice el s bytes,.slice _ _ _=>if s*bytes=0 then .no else(match zaS P el with|some _=>zb5 s bytes x y η|none=>.no)
 |_,_=>.no
def cpB (s b off n:Nat) (o:Option (List AV)) (x:BN) (η:HN):RES:=match o,x with
 |some new,.live false l=>if off+n*s≤l.length∧n≤9223372036854775807 then .ok (.int .i64 n) (η.put b (.live false (zbx l off new))) else .no
 |_,_=>.no
def cpN (td:TD) (x y:AV) (η:HN):RES:=match td,x,y with
 |.slice _ s _,.slice b off len _,.str n v=>if s=1 then cpB s b off (min n len) (some (byteCells (min n len) v)) (η.f b) η else .no
 |.slice _ s _,.slice b off len _,.slice b' off' len' _=>cpB s b off (min len' len) (zsN (η.f b') off' (min len' len*s)) (η.f b) η
 |.slice _ _ _,.slice _ _ _ _,.nilslice=>.ok (.int .i64 0) η
 |.slice _ _ _,.nilslice,.str _ _=>.ok (.int .i64 0) η
 |.slice _ _ _,.nilslice,.nilslice=>.ok (.int .i64 0) η
 |.slice _ _ _,.nilslice,.slice _ _ _ _=>.ok (.int .i64 0) η
 |_,_,_=>.no
def zo4 (x y:AV):Option AV:=match x,y with|.int k a,.int k' b=>if keq k k' then some (.int k (if ltN k b a then b else a)) else none|_,_=>none
def zl9:List AV→Option Nat
 | []=>some 0
 |.int .u8 n::l=>(match zl9 l with|some m=>some (n+256*m)|none=>none)
 |_::_=>none
def clB (s b off n:Nat) (new:List AV) (x:BN) (η:HN):RES:=match x with|.live false l=>if off+n*s≤l.length then .ok und (η.put b (.live false (zbx l off new))) else .no|_=>.no
def clN (P:Program) (td:TD) (x:AV) (η:HN):RES:=match td,x with
 |.slice el s _,.slice b off len _=>(match zaS P el with|some z=>if len=0 then .ok und η else clB s b off len (ziV len (zaX z)) (η.f b) η|none=>.no)
 |_,_=>.no
def strO (n:Nat) (o:Option Nat) (η:HN):RES:=match o with|some v=>.ok (.str n v) η|none=>.no
def strR (n:Nat) (o:Option (List AV)) (η:HN):RES:=match o with|some l=>strO n (zl9 l) η|none=>.no
def zpe (td:TD):Bool:=match td with|.int .u8=>true|_=>false
def zpT (P:Program) (src dst:TD) (x:AV) (η:HN):RES:=match dst,src,x with
 |.int k',.int _,.int k a=>.ok (.int k' (cvtN k' k a)) η
 |.str,.str,.str n v=>.ok (.str n v) η
 |.str,.slice e _ _,.nilslice=>if zpe (zaz P e) then .ok (.str 0 0) η else .no
 |.str,.slice e _ _,.slice b o l _=>if zpe (zaz P e) then strR l (zsN (η.f b) o l) η else .no
 |.slice e _ _,.str,.str n v=>if zpe (zaz P e) then .ok (.slice η.nx 0 n (.un 1)) (η.new (.live false (byteCells n v))) else .no
 |_,_,_=>.no
def roN (y:BN) (v:AV) (η:HN):RES:=match y with|.live false _=>.ok v η|_=>.no
def cvI (P:Program) (td:TD) (x:AV) (η:HN) (r:RES):RES:=match td,x with
 |.slice e _ _,.slice b o l c=>if zpe (zaz P e) then(if l=0 then .no else roN (η.f b) (.slice b o l c) η) else r
 |_,_=>r
def zvb (fv:AV) (args:List AV):RES:=match fv with|.func f a c=>.call f (a++(args++c))|_=>.no
def biR (P:Program) (b:Builtin) (args:List Operand) (ts:List TypeId) (φ:FN) (η:HN):RES:=match b,args,ts with
 |.len,[x],t::_=>zlH (zaz P t) (opd φ x) η
 |.cap,[x],t::_=>capN (zaz P t) (opd φ x) η
 |.append,[x,y],t::t2::_=>zxy P (zaz P t) (zaz P t2) (opd φ x) (opd φ y) η
 |.copy,[x,y],t::_::_=>cpN (zaz P t) (opd φ x) (opd φ y) η
 |.min,[x,y],_::_::_=>okO (zo4 (opd φ x) (opd φ y)) η
 |.clear,[x],t::_=>clN P (zaz P t) (opd φ x) η
 |_,_,_=>.no
def zun (P:Program) (c:Call) (φ:FN) (η:HN):RES:=match c.callee with
 |.value f=>zvb (opd φ f) (c.args.toList.map (opd φ))
 |.builtin b=>biR P b c.args.toList c.argTypes.toList φ η
 |_=>.no
def zoT (c a b:AV) (η:HN):RES:=match c with|.bool true=>.ok a η|.bool false=>.ok b η|_=>.no
def nilN (x:AV) (η:HN):RES:=match x with|.ptr b o=>.ok (.ptr b o) η|.func f a c=>.ok (.func f a c) η|_=>.no
def mkFN (fn:Fn) (a c:List AV) (η:HN):RES:=match fn with|.func f=>.ok (.func f a c) η|_=>.no
def zrK (q:AV→AV→Option Bool) (k:AV):List (AV×AV)→Option (Option AV)
 | []=>some none
 |e::r=>match q k e.1 with|some true=>some (some e.2)|some false=>zrK q k r|none=>none
def zoS (q:AV→AV→Option Bool) (k v:AV):List (AV×AV)→Option (List (AV×AV))
 | []=>some [(k,v)]
 |e::r=>match q k e.1 with
  |some true=>some ((k,v)::r)
  |some false=>(match zoS q k v r with|some r=>some (e::r)|none=>none)
  |none=>none
def zw0 (td:TD):Option (AV→AV→Option Bool):=match td with|.bool=>some zoR|.int _=>some qInt|.str=>some zhU|_=>none
def esB (x:BN):Option (List (AV×AV)):=match x with|.mp es=>some es|_=>none
def esN (x:AV) (η:HN):Option (List (AV×AV)):=match x with|.map b=>esB (η.f b)|.nilmap=>some []|_=>none
def lkV (ok:Bool) (z:AV) (o:Option AV):AV:=match o with|some v=>if ok then .tup [v,.bool true] else v|none=>if ok then .tup [z,.bool false] else z
def lkO (ok:Bool) (z:AV) (o:Option (Option AV)) (η:HN):RES:=match o with|some o=>.ok (lkV ok z o) η|none=>.no
def lkE (q:AV→AV→Option Bool) (ok:Bool) (z k:AV) (es:Option (List (AV×AV))) (η:HN):RES:=match es with|some es=>lkO ok z (zrK q k es) η|none=>.no
def lkN (P:Program) (td:TD) (x k:AV) (ok:Bool) (η:HN):RES:=match td with
 |.map key elem=>(match zw0 (zaz P key),zaS P elem with|some q,some z=>lkE q ok z k (esN x η) η|_,_=>.no)
 |_=>.no
def muO (b:Nat) (o:Option (List (AV×AV))) (η:HN):RES:=match o with|some es=>.ok und (η.put b (.mp es))|none=>.no
def muE (q:AV→AV→Option Bool) (b:Nat) (k v:AV) (es:Option (List (AV×AV))) (η:HN):RES:=match es with|some es=>muO b (zoS q k v es) η|none=>.no
def muN (P:Program) (td:TD) (m k v:AV) (η:HN):RES:=match td,m with
 |.map key _,.map b=>(match zw0 (zaz P key) with|some q=>muE q b k v (esB (η.f b)) η|none=>.no)
 |_,_=>.no
def mkMN (r:Option Operand) (η:HN):RES:=match r with|none=>.ok (.map η.nx) (η.new (.mp []))|some _=>.no
def opR (P:Program) (op:Op) (φ:FN) (η:HN):RES:=match op with
 |.move x=>.ok (opd φ x) η
 |.assign x=>.ok (opd φ x) η
 |.pick c a b=>zoT (opd φ c) (opd φ a) (opd φ b) η
 |.alloc t=>zu2 ((zaS P t).map zaX) η
 |.box _ x=>zu2 (zbX (opd φ x)) η
 |.build t ps=>zxv (zaz P t) (zaS P t) φ ps.toList η
 |.buildSlice t n ps=>zvr P (zaz P t) n φ ps.toList η
 |.load t x=>ldP (zcj P t) (opd φ x) η
 |.store t x v=>stP (zcj P t) (opd φ x) (opd φ v) η
 |.nilCheck x=>nilN (opd φ x) η
 |.binOp op t x y _=>okO (zsP P op t (za6 x||za6 y) (opd φ x) (opd φ y)) η
 |.unOp op _ x=>okO (unN op (opd φ x)) η
 |.convert s d x=>if s=d then cvI P (zaz P d) (opd φ x) η (zpT P (zaz P s) (zaz P d) (opd φ x) η) else zpT P (zaz P s) (zaz P d) (opd φ x) η
 |.makeFunc fn a c=>mkFN fn (a.toList.map (opd φ)) (c.toList.map (opd φ)) η
 |.makeSlice t l c=>zwS P (zaz P t) (opd φ l) (opd φ c) η
 |.slice t x lo hi mx=>if noHi hi mx then .no else slN (zaz P t) (opd φ x) (zqM φ lo) (zqM φ hi) (zqM φ mx) η
 |.fieldAddr t x f=>zpr (zvc (zaz P t) f) (opd φ x) η
 |.field t x f=>fldN (zvc (zaz P t) f) (opd φ x) η
 |.indexAddr t x i=>iaN (zaz P t) (opd φ x) (opd φ i) η
 |.index t x i=>ixN (zaz P t) (opd φ x) (opd φ i) η
 |.extract x i=>exN (opd φ x) i η
 |.call c=>zun P c φ η
 |.makeMap _ r=>mkMN r η
 |.lookup t x k ok=>lkN P (zaz P t) (opd φ x) (opd φ k) ok η
 |.mapUpdate t m k v=>muN P (zaz P t) (opd φ m) (opd φ k) (opd φ v) η
 |_=>.no
end
end Go.Eng
namespace Go.Eng
set_option autoImplicit false
section
variable [Deep]
def zsR (x:Blk) (y:BN):Prop:=match y with
 |.none=>True
 |.live ro l=>∃cs,x=.live ro l.length cs∧∀i,i<l.length→cget cs i=l.getD i und
 |.mp es=>x=.mp es
structure Rep (h:H) (η:HN):Prop where
 nx:h.nx=η.nx
 blk:∀b,b<zae→zsR (hget h b) (η.f b)
end
def FrR (fr:Fr) (φ:FN):Prop:=∀t,slot fr t=φ t
theorem zra [Deep] {k:Nat} (h:k<Deep.d):k<zae:=Nat.lt_trans h (Nat.lt_pow_self (by decide))
theorem zdC [Deep] {k k0:Nat} (h:k<k0) (h':k0≤Deep.d):k<zae:=zra (Nat.lt_of_lt_of_le h h')
def HV (g:∀ [Deep],H→RV) (η:HN) (v:AV) (η':HN):Prop:=∃k0,∀ [Deep],k0≤Deep.d→∀h,Rep h η→∃h',g h=.val v h'∧Rep h' η'
theorem HV.pure {g:∀ [Deep],H→RV} {η:HN} {v:AV} (e:∀ [Deep] (h:H),g h=.val v h):HV g η v η:=⟨0,fun _ h r=>⟨h,e h,r⟩⟩
theorem HV.eq {g g':∀ [Deep],H→RV} {η η':HN} {v:AV} (e:∀ [Deep] (h:H),g h=g' h) (k:HV g' η v η'):HV g η v η':=by
 obtain⟨k0,k⟩:=k
 exact⟨k0,fun hd h r=>let ⟨h',a,b⟩:=k hd h r;⟨h',(e h).trans a,b⟩⟩
section
variable [Deep] {h:H} {η:HN}
theorem Rep.new (r:Rep h η) (hn:η.nx<zae) {x:Blk} {y:BN} (hxy:zsR x y):Rep ⟨h.nx+1,zaK Deep.d h.nx h.m x⟩ (η.new y):=by
 have e:=r.nx
 refine⟨by show h.nx+1=η.nx+1;rw[e],fun b hb=>?_⟩
 have hg:hget ⟨h.nx+1,zaK Deep.d h.nx h.m x⟩ b=if b=h.nx then x else hget h b:=zeF Deep.d h.nx b h.m x (by rw[e];exact hn) hb
 rw[hg,e]
 show zsR _ (if b=η.nx then y else η.f b)
 split
 ·exact hxy
 ·exact r.blk b hb
theorem Rep.put (r:Rep h η) {c:Nat} (hc:c<zae) {x:Blk} {y:BN} (hxy:zsR x y):Rep ⟨h.nx,zaK Deep.d c h.m x⟩ (η.put c y):=by
 refine⟨r.nx,fun b hb=>?_⟩
 have hg:hget ⟨h.nx,zaK Deep.d c h.m x⟩ b=if b=c then x else hget h b:=zeF Deep.d c b h.m x hc hb
 rw[hg]
 show zsR _ (if b=c then y else η.f b)
 split
 ·exact hxy
 ·exact r.blk b hb
theorem zoA (l:List AV):zsR (zkI l) (.live false l):=⟨zcF l .e 0,rfl,fun i hi=>by rw[zbF,if_pos (by omega),Nat.sub_zero]⟩
theorem zlw {l:List AV} {k:Nat→H→RV} (hm:h.nx<zae):newBlk h l k=k h.nx ⟨h.nx+1,zaK Deep.d h.nx h.m (zkI l)⟩:=by
 unfold newBlk
 rw[zbi,zak,zgE hm,zbS]
 rfl
end
theorem HV.new {k:∀ [Deep],Nat→H→RV} {η:HN} {l:List AV} {v:AV} (e:∀ [Deep] (h:H),k η.nx h=.val v h):HV (fun h=>newBlk h l k) η v (η.new (.live false l)):=by
 refine⟨η.nx+1,fun hd h r=>?_⟩
 have hm:η.nx<zae:=zdC (Nat.lt_succ_self _) hd
 refine⟨⟨h.nx+1,zaK Deep.d h.nx h.m (zkI l)⟩,?_,r.new hm (zoA l)⟩
 show newBlk h l k=_
 rw[zlw (by rw[r.nx];exact hm),r.nx]
 exact e _
theorem HV.blk {k:∀ [Deep],Bool→Nat→T AV→H→RV} {η η':HN} {b:Nat} {ro:Bool} {l:List AV} {v:AV} (hb:η.f b=.live ro l)
  (e:∃k0,∀ [Deep],k0≤Deep.d→b<zae→∀(h:H) (cs:T AV),Rep h η→hget h b=.live ro l.length cs→(∀i,i<l.length→cget cs i=l.getD i und)→∃h',k ro l.length cs h=.val v h'∧Rep h' η') :
  HV (fun h=>zed h b fun ro sz cs=>k ro sz cs h) η v η':=by
 obtain⟨k0,e⟩:=e
 refine⟨max k0 (b+1),fun hd h r=>?_⟩
 have hm:b<zae:=zdC (show b<max k0 (b+1) by omega) hd
 have q:=r.blk b hm
 rw[hb]at q
 obtain⟨cs,q1,q2⟩:=q
 obtain⟨h',e1,e2⟩:=e (by omega) hm h cs r q1 q2
 refine⟨h',?_,e2⟩
 show blkk (hget h b) _=_
 rw[q1]
 exact e1
theorem zdx [Deep] {h:H} {b:Nat} {x:Blk} {k:H→RV}:ziZ h b x k=k ⟨h.nx,zaK Deep.d b h.m x⟩:=zeI b x k
theorem zb1 (r:List AV):∀(l:List AV) (i:Nat),(zbx l i r).length=l.length:=by
 induction r with
 |nil=>intros;rfl
 |cons a r ih=>intro l i;show(zbx (l.set i a) (i+1) r).length=_;rw[ih,List.length_set]
theorem zf3 (r:List AV):∀(l:List AV) (i j:Nat),j<l.length→(zbx l i r).getD j und=if i≤j∧j<i+r.length then r.getD (j-i) und else l.getD j und:=by
 induction r with
 |nil=>intro l i j hj;rw[if_neg (by simp)];rfl
 |cons a r ih =>
  intro l i j hj
  show(zbx (l.set i a) (i+1) r).getD j und=_
  rw[ih _ _ _ (by rw[List.length_set];exact hj)]
  by_cases h1:i+1≤j∧j<i+1+r.length
  ·rw[if_pos h1,if_pos (by simp;omega)]
   obtain⟨d,hd⟩:∃d,j-i=d+1:=⟨j-i-1,by omega⟩
   rw[hd,show j-(i+1)=d from by omega];rfl
  ·rw[if_neg h1]
   by_cases h2:j=i
   ·subst h2
    rw[if_pos (by simp)]
    simp [List.getD_eq_getElem?_getD,List.getElem?_set,hj]
   ·rw[if_neg (by simp;omega),List.getD_eq_getElem?_getD,List.getElem?_set_ne (Ne.symm h2),List.getD_eq_getElem?_getD]
theorem ze9 {ro:Bool} {l:List AV} {cs:T AV} (q:∀i,i<l.length→cget cs i=l.getD i und) (off:Nat) (r:List AV):zsR (.live ro l.length (zcF r cs off)) (.live ro (zbx l off r)):=by
 refine⟨zcF r cs off,by rw[zb1],fun i hi=>?_⟩
 rw[zb1]at hi
 rw[zbF,zf3 _ _ _ _ hi,q i hi]
theorem zhP {l:List AV} {cs:T AV} (q:∀i,i<l.length→cget cs i=l.getD i und) {off n:Nat} (h:off+n≤l.length):((List.range n).map fun j=>cget cs (off+j))=(l.drop off).take n:=by
 apply List.ext_getElem
 ·simp;omega
 ·intro i h1 h2
  simp at h1
  simp only[List.getElem_map,List.getElem_range,List.getElem_take,List.getElem_drop]
  rw[q _ (by omega),List.getD_eq_getElem?_getD,List.getElem?_eq_getElem (by omega)];rfl
theorem ziH [Deep] {x:AV} {l:List AV} (h:zbX x=some l) (k:List AV→RV):cellsK x k=k l:=by
 cases x<;>first|(cases h;rfl)|cases h
theorem zoK {cs l:List AV} {off n:Nat} (hl:l.length=n) (h:off+n≤cs.length):splice cs off l n=zbx cs off l:=by
 unfold splice
 rw[zcq,zcq,zkh,zkk]
 show cs.take off++(l++cs.drop (off+n))=_
 apply List.ext_getElem
 ·rw[zb1];simp;omega
 ·intro i h1 h2
  have h3:i<cs.length:=by rw[zb1]at h2;exact h2
  have e:(zbx cs off l)[i]=(zbx cs off l).getD i und:=by rw[List.getD_eq_getElem?_getD,List.getElem?_eq_getElem h2];rfl
  rw[e,zf3 _ _ _ _ h3]
  by_cases c1:i<off
  ·rw[if_neg (by omega),List.getElem_append_left (by simp;omega),List.getElem_take,List.getD_eq_getElem?_getD,List.getElem?_eq_getElem h3];rfl
  ·rw[List.getElem_append_right (by simp;omega)]
   have hm:min off cs.length=off:=by omega
   by_cases c2:i<off+l.length
   ·rw[if_pos ⟨by omega,c2⟩,List.getElem_append_left (by simp;omega),List.getD_eq_getElem?_getD,List.getElem?_eq_getElem (by omega)]
    simp [hm]
   ·rw[if_neg (by omega),List.getElem_append_right (by simp;omega),List.getElem_drop,List.getD_eq_getElem?_getD,List.getElem?_eq_getElem h3]
    simp only[Option.getD_some,List.length_take,hm]
    congr 1
    omega
theorem zki {α:Type} (n:Nat) (l:List α):lrep n l=(List.replicate n l).flatten:=by
 induction n with
 |zero=>rfl
 |succ n ih=>show lapp l (lrep n l)=_;rw[zcq,ih];simp [List.replicate_succ]
theorem zjG [Deep]:∀{l:List AV} {m:Nat},zl9 l=some m→∀k:Nat→RV,bytesOf l k=k m
 | [],m,h,k=>by cases h;rfl
 |x::l,m,h,k=>by
  cases x<;>first|(cases h;done)|skip
  rename_i kd n
  cases kd<;>first|(cases h;done)|skip
  unfold zl9 at h
  cases hq:zl9 l with
  |none=>rw[hq]at h;cases h
  |some m' =>
   rw[hq]at h
   cases h
   show bytesOf l (fun m=>forceN (Nat.add n (Nat.mul 256 m)) k)=_
   rw[zjG hq,zak];rfl
section
variable {P:Program} {η η':HN} {v:AV}
theorem zh4 {o:Option AV} (e:okO o η=.ok v η'):o=some v∧η'=η:=by
 cases o with
 |none=>cases e
 |some x=>cases e;exact⟨rfl,rfl⟩
theorem beqD (a b:Nat):Nat.beq a b=(a == b):=by rw[Bool.eq_iff_iff,zai];simp
theorem zw4 [Deep] {op:BinOp} {k k':IntKind} {a b:Nat} (e:zpi op k a k' b=some v) (h:H):(intG op).f k a k' b h=.val v h:=by
 cases op<;>simp only[zpi,Option.ite_none_right_eq_some,Option.some.injEq]at e
 case shl=>obtain⟨e1,rfl⟩:=e;show ifB (nneg k' b) (mkI k (ztf k a (zjp b (zfS k))) h) (.fail 4)=_;rw[e1,zac,za5,zeT]
 case shr=>obtain⟨e1,rfl⟩:=e;show ifB (nneg k' b) (mkI k (zte k a (zjp b (zfS k))) h) (.fail 4)=_;rw[e1,zac,za5,zeT]
 case quo =>
  obtain⟨e1,e⟩:=e
  split at e
  ·cases e
  ·rename_i hb
   cases e
   show ifB (keq k k') (ifB (Nat.beq b 0) (.fail 2) (mkI k (zv1 k a b) h)) (.fail 10)=_
   rw[e1,zac,zav.2 hb,zah,za5]
 case rem =>
  obtain⟨e1,e⟩:=e
  split at e
  ·cases e
  ·rename_i hb
   cases e
   show ifB (keq k k') (ifB (Nat.beq b 0) (.fail 2) (mkI k (zvZ k a b) h)) (.fail 10)=_
   rw[e1,zac,zav.2 hb,zah,za5]
 case eql=>obtain⟨e1,rfl⟩:=e;show ifB (keq k k') (mkB (Nat.beq a b) h) (RV.fail 10)=_;rw[e1,zac,zb3,beqD]
 case neq=>obtain⟨e1,rfl⟩:=e;show ifB (keq k k') (mkB (!Nat.beq a b) h) (RV.fail 10)=_;rw[e1,zac,zb3,beqD]
 all_goals
  obtain⟨e1,rfl⟩:=e
  show ifB (keq k k') _ (RV.fail 10)=_
  rw[e1,zac]
  first
   |exact za5 _ _ _
   |exact zb3 _ _
theorem zvO [Deep] {op:BinOp} {n w m u:Nat} (e:strN op n w m u=some v) (h:H):(strOp op).f n w m u h=.val v h:=by
 cases op<;>simp only[strN,Option.ite_none_right_eq_some,Option.some.injEq,reduceCtorEq]at e
 case add=>obtain⟨e1,rfl⟩:=e;show ifB (Nat.ble (n+m) 9223372036854775807) (mkS (n+m) (zk3 n w u) h) (.fail 3)=_;rw[zad.2 e1,zac,zlA]
 all_goals subst e;exact zb3 _ _
theorem eqG_ok [Deep] {op:BinOp} {t:TypeId} {nl:Bool} {x y:AV} (e:eqN P op t nl x y=some v) (h:H):(eqG P op t nl).f x y h=.val v h:=by
 unfold eqN at e
 split at e
 ·rename_i hg
  unfold eqG
  rw[hg,zac]
  cases op<;>simp only[reduceCtorEq]at e
  case eql =>
   show eqRes false ((eqB P t).f x y) h=_
   unfold zma at e
   cases hq:(eqB P t).f x y with
   |none=>rw[hq]at e;cases e
   |some b=>rw[hq]at e;cases e;exact zb3 _ _
  case neq =>
   show eqRes true ((eqB P t).f x y) h=_
   unfold zma at e
   cases hq:(eqB P t).f x y with
   |none=>rw[hq]at e;cases e
   |some b=>rw[hq]at e;cases e;exact zb3 _ _
 ·cases e
theorem zxw [Deep] {op:BinOp} {t:TypeId} {nl:Bool} {x y:AV} (e:zsP P op t nl x y=some v) (h:H):(binA P op t nl).f x y h=.val v h:=by
 unfold zsP at e
 split at e
 ·exact zw4 e h
 ·exact zvO e h
 all_goals first|exact eqG_ok e h|cases e
theorem unN_ok [Deep] {op:UnOp} {x:AV} (e:unN op x=some v) (h:H):(unA op).f x h=.val v h:=by
 unfold unN at e
 split at e
 ·cases e;exact za5 _ _ _
 ·cases e;exact za5 _ _ _
 ·cases e;exact zb3 _ _
 ·cases e
theorem zrf {t:TypeId} {x:AV} (e:ldP (zcj P t) x η=.ok v η'):HV (fun h=>(zfK P t).f x h) η v η':=by
 unfold ldP at e
 split at e
 ·rename_i s by' agg b off ht
  unfold ldB at e
  split at e
  ·rename_i ro l hb
   cases agg with
   |true =>
    dsimp only at e
    split at e
    ·rename_i hle
     cases e
     refine HV.eq (fun h=>?_) (HV.blk (k:=fun _ sz cs h=>ifB (Nat.ble (Nat.add off s) sz) (cgets cs s off fun l=>.val (.agg l) h) (.fail 31)) hb ⟨0,fun _ _ h cs r h1 h2=>⟨h,?_,r⟩⟩)
     ·unfold zfK;rw[ht];dsimp only;rw[zak];rfl
     ·show ifB (Nat.ble (off+s) l.length) _ _=_
      rw[zad.2 hle,zac,zbL,zhP h2 hle]
    ·cases e
   |false =>
    obtain⟨e1,rfl⟩:=zh4 (show okO l[off]? η=.ok v η' from e)
    obtain⟨hlt,hv⟩:=List.getElem?_eq_some_iff.1 e1
    refine HV.eq (fun h=>?_) (HV.blk (k:=fun _ sz cs h=>ifB (Nat.ble (Nat.succ off) sz) (mkV (cget cs off) h) (.fail 31)) hb ⟨0,fun _ _ h cs r h1 h2=>⟨h,?_,r⟩⟩)
    ·unfold zfK;rw[ht];dsimp only;rw[zak];rfl
    ·show ifB (Nat.ble (Nat.succ off) l.length) _ _=_
     rw[zad.2 hlt,zac,zcS,h2 off hlt,List.getD_eq_getElem?_getD,e1];rfl
  ·cases e
 ·cases e
theorem zs6 {t:TypeId} {x y:AV} (e:stP (zcj P t) x y η=.ok v η'):HV (fun h=>(zk4 P t).f x y h) η v η':=by
 unfold stP at e
 split at e
 ·rename_i s by' agg b off ht
  unfold stV at e
  split at e
  ·rename_i cs hc
   unfold stB at e
   split at e
   ·rename_i l hb
    split at e
    ·rename_i hle
     cases e
     refine HV.eq (fun h=>?_) (HV.blk (k:=fun ro sz c h=>ifB ro (.fail 32) (ifB (Nat.beq (llen cs) s) (ifB (Nat.ble (Nat.add off s) sz) (csets cs c off fun c=>ziZ h b (.live false sz c) fun h=>.val und h) (.fail 32)) (.fail 32))) hb ⟨0,fun _ hm h c r h1 h2=>⟨_,?_,r.put hm (ze9 h2 off cs)⟩⟩)
     ·unfold zk4;rw[ht];dsimp only;rw[zak];show cellsK y _=_;rw[ziH hc];rfl
     ·show ifB (Nat.beq (llen cs) s) _ _=_
      rw[zbS,zai.2 hle.1,zac,show off.add s=off+s from rfl,zad.2 hle.2,zac,zbi,zdx]
    ·cases e
   ·cases e
  ·cases e
 ·cases e
theorem zu1 {o:Option (List AV)} {l:List AV} (ho:o=some l) (e:zu2 o η=.ok v η'):HV (fun h=>newBlk h l fun b h=>.val (.ptr b 0) h) η v η':=by
 subst ho;cases e;exact HV.new fun h=>rfl
theorem zcX {i:AV} {k:Nat→RES} (e:zkW i k=.ok v η'):∃kd a,i=.int kd a∧nneg kd a=true∧k a=.ok v η':=by
 unfold zkW at e
 split at e
 ·split at e
  ·rename_i kd a h;exact⟨kd,a,rfl,h,e⟩
  ·cases e
 ·cases e
theorem zby [Deep] {kd:IntKind} {a:Nat} (h:nneg kd a=true) (k:Nat→RV):intIdx (.int kd a) k=k a:=by show ifB (nneg kd a) (k a) _=_;rw[h];rfl
theorem zrN {td:TD} {f:Nat} {fd:FD} (h:zvc td f=some fd):∃fs,td=.struct fs∧fs[f]?=some fd:=by
 cases td<;>first|cases h|exact⟨_,rfl,h⟩
end
end Go.Eng
namespace Go.Eng
set_option autoImplicit false
section
variable {P:Program} {η η':HN} {v:AV} {φ:FN}
theorem zaL {fr:Fr} (hf:FrR fr φ) (x:Operand):(zag P x).f fr=opd φ x:=by
 cases x with
 |tmp t=>exact hf t
 |const c=>show(match cv c with|some a=>(⟨fun _=>a⟩:Bx (Fr→AV))|none=>⟨fun _=>und⟩).f fr=cvD (cv c);cases cv c<;>rfl
 |global g=>rfl
 |func f=>rfl
theorem zmJ {fr:Fr} (hf:FrR fr φ) (x:Option Operand):(zlq P x).f fr=zqM φ x:=by
 cases x with
 |none=>rfl
 |some x=>exact congrArg some (zaL hf x)
theorem zgb [Deep] {fr:Fr} (hf:FrR fr φ):∀(l:List Operand) (k:List AV→RV),(ogets P l).f fr k=k (l.map (opd φ))
 | [],k=>rfl
 |x::l,k=>by
  show forceV ((zag P x).f fr) (fun a=>(ogets P l).f fr fun r=>k (a::r))=_
  rw[zaP,zgb hf l,zaL hf];rfl
def EV (E:∀ [Deep],E) (φ:FN) (η:HN) (v:AV) (η':HN):Prop:=∃k0,∀ [Deep],k0≤Deep.d→∀call fr h,FrR fr φ→Rep h η→∃h',E.f call fr h=.val v h'∧Rep h' η'
theorem EV.of {E:∀ [Deep],E} {g:∀ [Deep],H→RV} (e:∀ [Deep] (call:Caller) (fr:Fr) (h:H),FrR fr φ→E.f call fr h=g h) (k:HV g η v η'):EV E φ η v η':=by
 obtain⟨k0,k⟩:=k
 exact⟨k0,fun hd call fr h hf r=>by rw[e call fr h hf];exact k hd h r⟩
theorem EV.pure {E:∀ [Deep],E} (e:∀ [Deep] (call:Caller) (fr:Fr) (h:H),FrR fr φ→E.f call fr h=.val v h):EV E φ η v η :=
 EV.of (g:=fun h=>.val v h) e (HV.pure fun _=>rfl)
theorem zlR {t:TypeId} {x:Operand} {f:Nat} (e:zpr (zvc (zaz P t) f) (opd φ x) η=.ok v η'):EV (zcO P t x f) φ η v η':=by
 unfold zpr at e
 split at e
 ·rename_i fd b off h1 h2
  split at e
  ·cases e
  ·rename_i h3
   cases e
   obtain⟨fs,h4,h5⟩:=zrN h1
   refine EV.pure fun call fr h hf=>?_
   unfold zcO
   rw[h4]
   dsimp only
   rw[zb9,h5]
   dsimp only
   rw[zav.2 h3,zah,zak]
   dsimp only
   rw[zaL hf,h2]
   show forceN (Nat.add off fd.off) _=_
   rw[zak];rfl
 ·cases e
theorem ztZ {t:TypeId} {x:Operand} {f:Nat} (e:fldN (zvc (zaz P t) f) (opd φ x) η=.ok v η'):EV (zit P t x f) φ η v η':=by
 unfold fldN at e
 split at e
 ·rename_i fd cs h1 h2
  obtain⟨h3,rfl⟩:=zh4 e
  obtain⟨fs,h4,h5⟩:=zrN h1
  refine EV.pure fun call fr h hf=>?_
  unfold zit
  rw[h4]
  dsimp only
  rw[zb9,h5]
  dsimp only
  rw[zaL hf,h2]
  show osome 61 (zc7 fd.agg fd.size cs fd.off) _=_
  rw[h3]
  exact zcS _ _
 ·cases e
theorem zlN {t:TypeId} {x i:Operand} (e:iaN (zaz P t) (opd φ x) (opd φ i) η=.ok v η'):EV (zd6 P t x i) φ η v η':=by
 unfold iaN at e
 split at e
 ·rename_i el s by' b off len cp h1 h2
  obtain⟨kd,a,h3,h4,e⟩:=zcX e
  split at e
  ·rename_i h5
   cases e
   refine EV.pure fun call fr h hf=>?_
   unfold zd6 zcM
   dsimp only
   rw[h1]
   dsimp only
   rw[zaL hf,zaL hf,h2,h3,zby h4]
   show ifB (Nat.ble (Nat.succ a) len) (forceN (Nat.add off (Nat.mul a s)) _) _=_
   rw[zad.2 h5,zac,zak];rfl
  ·cases e
 ·rename_i n el s ag b off h1 h2
  obtain⟨kd,a,h3,h4,e⟩:=zcX e
  split at e
  ·rename_i h5
   cases e
   refine EV.pure fun call fr h hf=>?_
   unfold zd6 zcM
   dsimp only
   rw[h1]
   dsimp only
   rw[zaL hf,zaL hf,h2,h3,zby h4]
   show ifB (Nat.ble (Nat.succ a) n) (forceN (Nat.add off (Nat.mul a s)) _) _=_
   rw[zad.2 h5,zac,zak];rfl
  ·cases e
 ·cases e
theorem ztP {t:TypeId} {x i:Operand} (e:ixN (zaz P t) (opd φ x) (opd φ i) η=.ok v η'):EV (zlZ P t x i) φ η v η':=by
 unfold ixN at e
 split at e
 ·rename_i n s h1 h2
  obtain⟨kd,a,h3,h4,e⟩:=zcX e
  split at e
  ·rename_i h5
   cases e
   refine EV.pure fun call fr h hf=>?_
   unfold zlZ zil
   dsimp only
   rw[h1]
   dsimp only
   rw[zaL hf,zaL hf,h2,h3,zby h4]
   show ifB (Nat.ble (Nat.succ a) n) _ _=_
   rw[zad.2 h5,zac,za5]
  ·cases e
 ·rename_i n el s ag cs h1 h2
  obtain⟨kd,a,h3,h4,e⟩:=zcX e
  split at e
  ·rename_i h5
   obtain⟨h6,rfl⟩:=zh4 e
   refine EV.pure fun call fr h hf=>?_
   unfold zlZ zil
   dsimp only
   rw[h1]
   dsimp only
   rw[zaL hf,zaL hf,h2,h3,zby h4]
   show ifB (Nat.ble (Nat.succ a) n) (osome 34 (zc7 ag s cs (Nat.mul a s)) _) _=_
   rw[zad.2 h5,zac,show Nat.mul a s=a*s from rfl,h6]
   exact zcS _ _
  ·cases e
 ·cases e
theorem zpv {x:Operand} {i:Nat} (e:exN (opd φ x) i η=.ok v η'):EV (zhw P x i) φ η v η':=by
 unfold exN at e
 split at e
 ·rename_i l h1
  obtain⟨h2,rfl⟩:=zh4 e
  refine EV.pure fun call fr h hf=>?_
  unfold zhw
  dsimp only
  rw[zaL hf,h1]
  show osome 89 (lget? l i) _=_
  rw[zb9,h2]
  exact zcS _ _
 ·cases e
theorem zkv [Deep] {fr:Fr} (hf:FrR fr φ) {place:Nat→Option (Nat×Nat)}:∀{ps:List (Nat×Operand)} {cs l:List AV} (k:List AV→RV),zgL φ place ps cs=some l→(zfs P place ps).f fr cs k=k l
 | [],cs,l,k,e=>by cases e;rfl
 |p::ps,cs,l,k,e=>by
  unfold zgL at e
  split at e
  ·rename_i o s r h1 h2
   split at e
   ·rename_i h3
    show osome 28 (place p.1) (fun os=>forceV ((zag P p.2).f fr) fun a=>cellsK a fun l=>ifB (Nat.beq (llen l) os.2) (ifB (Nat.ble (Nat.add os.1 os.2) (llen cs)) (forceL (splice cs os.1 l os.2) fun cs=>(zfs P place ps).f fr cs k) (.fail 28)) (.fail 28))=_
    rw[h1]
    show forceV ((zag P p.2).f fr) _=_
    rw[zaP,zaL hf,ziH h2]
    dsimp only
    rw[zbS,zbS,zai.2 h3.1,zac,show Nat.add o s=o+s from rfl,zad.2 h3.2,zac,za3,zoK h3.1 h3.2]
    exact zkv hf k e
   ·cases e
  ·cases e
theorem zsE {o:Option (List AV)} (e:aggO o η=.ok v η'):∃l,o=some l∧v=.agg l∧η'=η:=by
 cases o with
 |none=>cases e
 |some l=>cases e;exact⟨l,rfl,rfl,rfl⟩
theorem zuq {t:TypeId} {ps:Array (Nat×Operand)} (e:zxv (zaz P t) (zaS P t) φ ps.toList η=.ok v η'):EV (zg7 P t ps) φ η v η':=by
 unfold zxv at e
 split at e
 ·rename_i n el s ag z h1 h2
  obtain⟨l,h3,rfl,rfl⟩:=zsE e
  refine EV.pure fun call fr h hf=>?_
  unfold zg7
  rw[h2]
  dsimp only
  rw[h1]
  exact zkv hf _ h3
 ·rename_i fs z h1 h2
  obtain⟨l,h3,rfl,rfl⟩:=zsE e
  refine EV.pure fun call fr h hf=>?_
  unfold zg7
  rw[h2]
  dsimp only
  rw[h1]
  exact zkv hf _ h3
 ·cases e
theorem zuQ {n:Nat} {o:Option (List AV)} (e:slO n o η=.ok v η'):∃l,o=some l∧v=.slice η.nx 0 n (.kn n)∧η'=η.new (.live false l):=by
 cases o with
 |none=>cases e
 |some l=>cases e;exact⟨l,rfl,rfl,rfl⟩
theorem zkH {t:TypeId} {n:Nat} {ps:Array (Nat×Operand)} (e:zvr P (zaz P t) n φ ps.toList η=.ok v η'):EV (zb4 P t n ps) φ η v η':=by
 unfold zvr at e
 split at e
 ·rename_i el s by' h1
  split at e
  ·rename_i h2
   split at e
   ·rename_i h3
    obtain⟨l,h4,rfl,rfl⟩:=zuQ e
    cases h4
    refine EV.of (g:=fun h=>newBlk h [] fun b h=>.val (.slice b 0 n (.kn n)) h) (fun call fr h hf=>?_) (HV.new fun h=>rfl)
    unfold zb4
    rw[h1]
    dsimp only
    rw[show Nat.mul n s=n*s from rfl,zai.2 h2,zac,h3]
   ·cases e
  ·rename_i h2
   split at e
   ·rename_i h3
    split at e
    ·rename_i z h4
     obtain⟨l,h5,rfl,rfl⟩:=zuQ e
     refine EV.of (g:=fun h=>newBlk h l fun b h=>.val (.slice b 0 n (.kn n)) h) (fun call fr h hf=>?_) (HV.new fun h=>rfl)
     unfold zb4
     rw[h1]
     dsimp only
     rw[show Nat.mul n s=n*s from rfl,zav.2 h2,zah,zad.2 h3,zac,h4]
     dsimp only
     rw[zki]
     exact zkv hf _ h5
    ·cases e
   ·cases e
 ·cases e
theorem mkS_ev {t:TypeId} {l c:Operand} (e:zwS P (zaz P t) (opd φ l) (opd φ c) η=.ok v η'):EV (zeq P t l c) φ η v η':=by
 unfold zwS at e
 split at e
 ·rename_i el s bytes h1
  split at e
  ·rename_i z h2
   obtain⟨kd,n,h3,h4,e⟩:=zcX e
   obtain⟨kd',m,h5,h6,e⟩:=zcX e
   split at e
   ·rename_i h7
    cases e
    refine EV.of (g:=fun h=>newBlk h (ziV m (zaX z)) fun b h=>.val (.slice b 0 n (.kn m)) h) (fun call fr h hf=>?_) (HV.new fun h=>rfl)
    unfold zeq
    rw[h1]
    dsimp only
    rw[h2]
    dsimp only
    rw[zaL hf,zaL hf,h3,h5,zby h4,zby h6,zad.2 h7.1,zac,zav.2 h7.2.1,zah]
    show ifB (Nat.ble (m*bytes) 140737488355328) _ _=_
    rw[zad.2 h7.2.2,zac,za3,zki];rfl
   ·cases e
  ·cases e
 ·cases e
theorem zsj {o:Option AV} {d:Nat} {k:Nat→RES} (e:zur o d k=.ok v η'):∃n,k n=.ok v η'∧∀ [Deep] (k':Nat→RV),bnd o d k'=k' n:=by
 cases o with
 |none=>exact⟨d,e,fun _=>rfl⟩
 |some x =>
  obtain⟨kd,a,h1,h2,h3⟩:=zcX e
  exact⟨a,h3,fun k'=>by subst h1;exact zby h2 k'⟩
theorem zdK {lo hi:Option AV} {len top:Nat} {k:Nat→Nat→RES} (e:zfQ lo hi len top k=.ok v η'):∃l hh,k l hh=.ok v η'∧∀ [Deep] (k':Nat→Nat→RV),bnds lo hi len top k'=k' l hh:=by
 obtain⟨l,e,e1⟩:=zsj e
 obtain⟨hh,e,e2⟩:=zsj e
 split at e
 ·rename_i h1
  refine⟨l,hh,e,fun k'=>?_⟩
  unfold bnds
  rw[e1,e2,zad.2 h1.1,zac,zad.2 h1.2,zac]
 ·cases e
theorem zhi {b off l hh c s:Nat} (e:ziX b off l hh c s η=.ok v η'):η'=η∧∀ [Deep] (h:H),slTo b off l hh c s h=.val v h:=by
 unfold ziX at e
 split at e
 ·rename_i h1
  cases e
  refine⟨rfl,fun h=>?_⟩
  unfold slTo
  rw[zai.2 h1];rfl
 ·rename_i h1
  cases e
  refine⟨rfl,fun h=>?_⟩
  unfold slTo
  rw[zav.2 h1,zah,zak,zak,zak];rfl
theorem zqd {lo hi:Option AV} {b off len:Nat} {cap:Cp} {r:RES} (e:zsM lo hi b off len cap η r=.ok v η') :
  (η'=η∧∀ [Deep] (h:H) (R:H→RV),slHd b off len cap lo hi none R h=.val v h)∨(r=.ok v η'∧∀ [Deep] (h:H) (R:H→RV),slHd b off len cap lo hi none R h=R h):=by
 unfold zsM at e
 split at e
 ·rename_i y
  obtain⟨kd,a,rfl,h3,e⟩:=zcX e
  split at e
  ·rename_i h4
   cases e
   refine .inl ⟨rfl,fun h R=>?_⟩
   refine(zby h3 fun m=>ifB (Nat.ble m len) (.val (.slice b off m cap) h) (R h)).trans ?_
   rw[zad.2 h4,zac]
  ·rename_i h4
   refine .inr ⟨e,fun h R=>?_⟩
   refine(zby h3 fun m=>ifB (Nat.ble m len) (.val (.slice b off m cap) h) (R h)).trans ?_
   have:Nat.ble a len=false:=by
    cases hq:Nat.ble a len with
    |false=>rfl
    |true=>exact absurd (zad.1 hq) h4
   rw[this,zah]
 ·rename_i h1
  refine .inr ⟨e,fun h R=>?_⟩
  cases lo with
  |some l=>rfl
  |none =>
   cases hi with
   |none=>rfl
   |some y=>exact(h1 y rfl rfl).elim
theorem slN_ok {t:TypeId} {x:AV} {lo hi mx:Option AV} (e:slN (zaz P t) x lo hi mx η=.ok v η'):η'=η∧∀ [Deep] (h:H),(sliceA P t).f x lo hi mx h=.val v h:=by
 unfold slN at e
 split at e
 ·rename_i n s h1
  obtain⟨l,hh,e,e1⟩:=zdK e
  cases e
  refine⟨rfl,fun h=>?_⟩
  unfold sliceA
  rw[h1]
  exact(e1 fun l hh=>mkS (hh-l) (zdW s l (hh-l)) h).trans (zlA _ _ _)
 ·rename_i el s by' h1
  obtain⟨l,hh,e,e1⟩:=zdK e
  cases e
  refine⟨rfl,fun h=>?_⟩
  unfold sliceA
  rw[h1]
  exact e1 fun _ _=>.val .nilslice h
 ·rename_i el s by' m h1
  obtain⟨kd,a,rfl,h3,e⟩:=zcX e
  split at e
  ·rename_i h4
   obtain⟨l,hh,e,e1⟩:=zdK e
   cases e
   refine⟨rfl,fun h=>?_⟩
   unfold sliceA
   rw[h1]
   refine(zby h3 fun m=>ifB (Nat.beq m 0) (bnds lo hi 0 0 fun _ _=>.val .nilslice h) (.fail 26)).trans ?_
   rw[zai.2 h4,zac]
   exact e1 fun _ _=>.val .nilslice h
  ·cases e
 ·rename_i el s by' b off len c h1
  have d1:∀ [Deep] (h:H),(sliceA P t).f (.slice b off len (.kn c)) lo hi none h=slHd b off len (.kn c) lo hi none (fun h=>slCap b off len c s lo hi none h) h:=fun h=>by
   unfold sliceA
   rw[h1];rfl
  rcases zqd e with ⟨rfl,e0⟩|⟨e,e0⟩
  ·exact⟨rfl,fun h=>(d1 h).trans (e0 h _)⟩
  obtain⟨l,hh,e,e1⟩:=zdK e
  obtain⟨rfl,e2⟩:=zhi e
  refine⟨rfl,fun h=>(d1 h).trans ((e0 h _).trans ?_)⟩
  exact(e1 fun l hh=>slTo b off l hh c s h).trans (e2 h)
 ·rename_i el s by' b off len c m h1
  obtain⟨kd,a,rfl,h3,e⟩:=zcX e
  split at e
  ·rename_i h4
   obtain⟨l,hh,e,e1⟩:=zdK e
   obtain⟨rfl,e2⟩:=zhi e
   refine⟨rfl,fun h=>?_⟩
   unfold sliceA
   rw[h1]
   refine(zby h3 fun m=>ifB (Nat.ble m c) (bnds lo hi len m fun l hh=>slTo b off l hh m s h) (.fail 26)).trans ?_
   rw[zad.2 h4,zac,e1,e2]
  ·cases e
 ·rename_i el s by' b off len es h1
  have d1:∀ [Deep] (h:H),(sliceA P t).f (.slice b off len (.un es)) lo hi none h=slHd b off len (.un es) lo hi none (fun h=>slUnk b off len es s lo hi none h) h:=fun h=>by
   unfold sliceA
   rw[h1];rfl
  rcases zqd e with ⟨rfl,e0⟩|⟨e,e0⟩
  ·exact⟨rfl,fun h=>(d1 h).trans (e0 h _)⟩
  split at e
  ·rename_i h2
   obtain⟨l,hh,e,e1⟩:=zdK e
   cases e
   refine⟨rfl,fun h=>(d1 h).trans ((e0 h _).trans ?_)⟩
   show ifB (Nat.beq es s) (bnds lo hi len len fun l hh=>forceN (Nat.add off (Nat.mul l s)) fun o=>forceN (Nat.sub hh l) fun n=>.val (.slice b o n (.un s)) h) (.fail 26)=_
   rw[zai.2 h2,zac,e1,zak,zak];rfl
  ·cases e
 ·rename_i el s by' b off len es m h1
  split at e
  ·rename_i h2
   obtain⟨kd,a,rfl,h3,e⟩:=zcX e
   split at e
   ·rename_i h4
    obtain⟨l,hh,e,e1⟩:=zdK e
    obtain⟨rfl,e2⟩:=zhi e
    refine⟨rfl,fun h=>?_⟩
    unfold sliceA
    rw[h1]
    show ifB (Nat.beq es s) (intIdx (.int kd a) fun m=>ifB (Nat.ble m len) (bnds lo hi len m fun l hh=>slTo b off l hh m s h) (.fail 26)) (.fail 26)=_
    rw[zai.2 h2,zac,zby h3,zad.2 h4,zac,e1,e2]
   ·cases e
  ·cases e
 ·rename_i n el s ag b off h1
  obtain⟨l,hh,e,e1⟩:=zdK e
  obtain⟨rfl,e2⟩:=zhi e
  refine⟨rfl,fun h=>?_⟩
  unfold sliceA
  rw[h1]
  exact(e1 fun l hh=>slTo b off l hh n s h).trans (e2 h)
 ·cases e
theorem ztb {t:TypeId} {x:Operand} {lo hi mx:Option Operand} (hn:noHi hi mx=false) (e:slN (zaz P t) (opd φ x) (zqM φ lo) (zqM φ hi) (zqM φ mx) η=.ok v η'):EV (zlY P t x lo hi mx) φ η v η':=by
 obtain⟨rfl,e1⟩:=slN_ok e
 refine EV.pure fun call fr h hf=>?_
 unfold zlY
 rw[hn,zah]
 dsimp only
 rw[zaL hf,zmJ hf,zmJ hf,zmJ hf]
 exact e1 h
end
end Go.Eng
namespace Go.Eng
set_option autoImplicit false
section
variable {P:Program} {η η':HN} {v:AV} {φ:FN}
theorem zri {n:Nat} (e:zpa n η=.ok v η'):η'=η∧∀ [Deep] (h:H),mkLen n h=.val v h:=by
 unfold zpa at e
 split at e
 ·rename_i h1
  cases e
  exact⟨rfl,fun h=>by unfold mkLen;rw[zad.2 h1];rfl⟩
 ·cases e
theorem zwZ {t:TypeId} {x:AV} (e:zlH (zaz P t) x η=.ok v η'):η'=η∧∀ [Deep] (h:H),(zrj P t).f x h=.val v h:=by
 unfold zlH at e
 split at e<;>first|(cases e;done)|skip
 all_goals
  rename_i h1
  obtain⟨rfl,e1⟩:=zri e
  refine⟨rfl,fun h=>?_⟩
  unfold zrj
  rw[h1]
  exact e1 h
theorem zxq {t:TypeId} {x:AV} (e:capN (zaz P t) x η=.ok v η'):η'=η∧∀ [Deep] (h:H),(zvq P t).f x h=.val v h:=by
 unfold capN at e
 split at e<;>first|(cases e;done)|skip
 all_goals
  rename_i h1
  obtain⟨rfl,e1⟩:=zri e
  refine⟨rfl,fun h=>?_⟩
  unfold zvq
  rw[h1]
  exact e1 h
theorem zjT {b off n:Nat} {r:List AV} (e:zsN (η.f b) off n=some r):∃ro l,η.f b=.live ro l∧off+n≤l.length∧r=(l.drop off).take n:=by
 unfold zsN at e
 split at e
 ·rename_i ro l hb
  split at e
  ·rename_i h1;cases e;exact⟨ro,l,hb,h1,rfl⟩
  ·cases e
 ·cases e
theorem zxA {b off len s n c:Nat} {new:List AV} (e:zsB b off len s n c new (η.f b) η=.ok v η') :
  HV (fun h=>ifB (Nat.ble (Nat.add len n) c) (zuA b off len s n (.kn c) new h (.fail 39)) (zuz b off len s n new h)) η v η':=by
 unfold zsB at e
 split at e
 ·rename_i h1
  split at e
  ·rename_i l hb
   split at e
   ·rename_i h2
    cases e
    refine HV.eq (fun h=>?_) (HV.blk (k:=fun ro sz cs h=>ifB ro (.fail 36) (ifB (Nat.ble (Nat.add (Nat.add off (Nat.mul len s)) (Nat.mul n s)) sz) (forceN (Nat.add len n) fun m=>csets new cs (Nat.add off (Nat.mul len s)) fun cs=>ziZ h b (.live false sz cs) fun h=>.val (.slice b off m (.kn c)) h) (.fail 39)))
     hb ⟨0,fun _ hm h cs r h3 h4=>⟨_,?_,r.put hm (ze9 h4 (off+len*s) new)⟩⟩)
    ·rw[show Nat.add len n=len+n from rfl,zad.2 h1];rfl
    ·show ifB (Nat.ble (off+len*s+n*s) l.length) _ _=_
     rw[zad.2 h2,zac,zak,zbi,zdx];rfl
   ·cases e
  ·cases e
 ·rename_i h1
  unfold ziL at e
  split at e
  ·rename_i old ho
   cases e
   obtain⟨ro,l,hb,h2,rfl⟩:=zjT ho
   refine HV.eq (fun h=>?_) (HV.blk (k:=fun ro sz cs h=>ifB (Nat.ble (Nat.add off (Nat.mul len s)) sz) (cgets cs (Nat.mul len s) off fun old=>forceN (Nat.add len n) fun m=>newBlk h (lapp old new) fun b h=>.val (.slice b 0 m (.un s)) h) (.fail 35)) hb
    ⟨η.nx+1,fun hd _ h cs r h3 h4=>⟨⟨h.nx+1,zaK Deep.d h.nx h.m (zkI ((l.drop off).take (len*s)++new))⟩,?_,r.new (zdC (Nat.lt_succ_self _) hd) (zoA _)⟩⟩)
   ·have:Nat.ble (Nat.add len n) c=false:=by
     cases hq:Nat.ble (Nat.add len n) c with
     |false=>rfl
     |true=>exact absurd (zad.1 hq) h1
    rw[this];rfl
   ·show ifB (Nat.ble (off+len*s) l.length) _ _=_
    rw[zad.2 h2,zac,zbL,zak,zcq,zlw (by rw[r.nx];exact zdC (Nat.lt_succ_self _) hd),show Nat.mul len s=len*s from rfl,zhP h4 h2,r.nx];rfl
  ·cases e
theorem zuF {l new:List AV} {cs:T AV} {off:Nat} (q:∀i,i<l.length→cget cs i=l.getD i und) (ho:off≤l.length) {m:Nat} (hm:m=(l.drop off++new).length) :
  zsR (.live false m (if off=0 then zcF new cs l.length else zcF (l.drop off++new) .e 0)) (.live false (l.drop off++new)):=by
 subst hm
 refine⟨_,rfl,fun i hi=>?_⟩
 by_cases h0:off=0
 ·subst h0
  rw[if_pos rfl,zbF]
  simp only[List.drop_zero,List.length_append]at hi ⊢
  by_cases h1:i<l.length
  ·rw[if_neg (by omega),q i h1,List.getD_eq_getElem?_getD,List.getD_eq_getElem?_getD,List.getElem?_append_left h1]
  ·rw[if_pos (by omega),List.getD_eq_getElem?_getD,List.getD_eq_getElem?_getD,List.getElem?_append_right (by omega)]
 ·rw[if_neg h0,zbF,if_pos (by omega),Nat.sub_zero]
theorem zsI {l new:List AV} {cs:T AV} {off k:Nat} (q:∀i,i<l.length→cget cs i=l.getD i und) (ho:off+k≤l.length) {m:Nat} (hm:m=((l.drop off).take k++new).length) :
  zsR (.live false m (if off=0 then zcF new cs k else zcF ((l.drop off).take k++new) .e 0)) (.live false ((l.drop off).take k++new)):=by
 subst hm
 refine⟨_,rfl,fun i hi=>?_⟩
 have hk:((l.drop off).take k).length=k:=by rw[List.length_take,List.length_drop];omega
 rw[List.length_append,hk]at hi
 by_cases h0:off=0
 ·subst h0
  rw[if_pos rfl,zbF]
  by_cases h1:i<k
  ·rw[if_neg (by omega),q i (by omega),List.getD_eq_getElem?_getD,List.getD_eq_getElem?_getD,List.getElem?_append_left (by rw[hk];exact h1),List.getElem?_take,if_pos h1,List.drop_zero]
  ·rw[if_pos (by omega),List.getD_eq_getElem?_getD,List.getD_eq_getElem?_getD,List.getElem?_append_right (by rw[hk];omega),hk]
 ·rw[if_neg h0,zbF,if_pos (by rw[List.length_append,hk];omega),Nat.sub_zero]
theorem zxz {b off len s n:Nat} {new:List AV} (e:zsQ b off len s n new (η.f b) η=.ok v η') :
  HV (fun h=>zuA b off len s n (.un s) new h (ziM b off len s n new h)) η v η':=by
 unfold zsQ at e
 split at e
 ·rename_i l hb
  split at e
  ·rename_i h2
   cases e
   refine HV.eq (fun h=>?_) (HV.blk (k:=fun ro sz cs h=>ifB ro (.fail 36) (ifB (Nat.ble (Nat.add (Nat.add off (Nat.mul len s)) (Nat.mul n s)) sz) (forceN (Nat.add len n) fun m=>csets new cs (Nat.add off (Nat.mul len s)) fun cs=>ziZ h b (.live false sz cs) fun h=>.val (.slice b off m (.un s)) h) (ziM b off len s n new h)))
    hb ⟨0,fun _ hm h cs r h3 h4=>⟨_,?_,r.put hm (ze9 h4 (off+len*s) new)⟩⟩)
   ·rfl
   ·show ifB (Nat.ble (off+len*s+n*s) l.length) _ _=_
    rw[zad.2 h2,zac,zak,zbi,zdx];rfl
  ·rename_i h2
   split at e
   ·rename_i h3
    cases e
    refine HV.eq (fun h=>?_) (HV.blk (k:=fun ro sz cs h=>ifB ro (.fail 36) (ifB (Nat.ble (Nat.add (Nat.add off (Nat.mul len s)) (Nat.mul n s)) sz) (forceN (Nat.add len n) fun m=>csets new cs (Nat.add off (Nat.mul len s)) fun cs=>ziZ h b (.live false sz cs) fun h=>.val (.slice b off m (.un s)) h) (ziM b off len s n new h)))
     hb ⟨η.nx+1,fun hd hm h cs r h4 h5=>?_⟩)
    ·rfl
    have hn:η.nx<zae:=zdC (Nat.lt_succ_self _) hd
    have r1:=(r.put hm (x:=.dead) (y:=.none) trivial)
    have hlen:(len+n)*s=(l.drop off++new).length:=by
     rw[List.length_append,List.length_drop,h3.2,Nat.add_mul];omega
    refine⟨_,?_,r1.new hn (zuF (new:=new) h5 (by omega) hlen)⟩
    show ifB (Nat.ble (off+len*s+n*s) l.length) _ _=_
    have:Nat.ble (off+len*s+n*s) l.length=false:=by
     cases hq:Nat.ble (off+len*s+n*s) l.length with
     |false=>rfl
     |true=>exact absurd (zad.1 hq) h2
    rw[this,zah]
    show blkk (hget h b) _=_
    rw[h4]
    show ifB (Nat.ble (off+len*s) l.length) _ _=_
    rw[zad.2 (Nat.le_of_eq h3.1),zac,zak,zak]
    have fin:∀c:T AV,ziZ h b .dead (fun h=>newB h (.live false ((len+n)*s) c) fun b' h=>.val (.slice b' 0 (len+n) (.un s)) h)=RV.val (.slice η.nx 0 (len+n) (.un s)) ⟨h.nx+1,zaK Deep.d h.nx (zaK Deep.d b h.m .dead) (.live false ((len+n)*s) c)⟩:=fun c=>by
     rw[zdx,zgE (h:=⟨h.nx,zaK Deep.d b h.m .dead⟩) (by show h.nx<_;rw[r.nx];exact hn)]
     show RV.val (.slice h.nx 0 (len+n) (.un s)) _=_
     rw[r.nx]
    by_cases h0:off=0
    ·rw[if_pos h0,zai.2 h0]
     show csets new cs (len*s) _=_
     rw[zbi,show len*s=l.length by rw[←h3.1,h0,Nat.zero_add]]
     exact fin _
    ·rw[if_neg h0,zav.2 h0]
     show cgets cs (len*s) off _=_
     rw[zbL,zbi,zcq,zhP h5 (by omega)]
     have:(l.drop off).take (len*s)=l.drop off:=List.take_of_length_le (by simp;omega)
     rw[this]
     exact fin _
   ·rename_i h3'
    split at e
    ·rename_i h3
     cases e
     refine HV.eq (fun h=>?_) (HV.blk (k:=fun ro sz cs h=>ifB ro (.fail 36) (ifB (Nat.ble (Nat.add (Nat.add off (Nat.mul len s)) (Nat.mul n s)) sz) (forceN (Nat.add len n) fun m=>csets new cs (Nat.add off (Nat.mul len s)) fun cs=>ziZ h b (.live false sz cs) fun h=>.val (.slice b off m (.un s)) h) (ziM b off len s n new h)))
      hb ⟨η.nx+1,fun hd hm h cs r h4 h5=>?_⟩)
     ·rfl
     have hn:η.nx<zae:=zdC (Nat.lt_succ_self _) hd
     have r1:=(r.put hm (x:=.dead) (y:=.none) trivial)
     have hlen:(len+n)*s=((l.drop off).take (len*s)++new).length:=by
      rw[List.length_append,List.length_take,List.length_drop,h3.2,Nat.add_mul];omega
     refine⟨_,?_,r1.new hn (zsI (new:=new) h5 h3.1 hlen)⟩
     show ifB (Nat.ble (off+len*s+n*s) l.length) _ _=_
     have:Nat.ble (off+len*s+n*s) l.length=false:=by
      cases hq:Nat.ble (off+len*s+n*s) l.length with
      |false=>rfl
      |true=>exact absurd (zad.1 hq) h2
     rw[this,zah]
     show blkk (hget h b) _=_
     rw[h4]
     show ifB (Nat.ble (off+len*s) l.length) _ _=_
     rw[zad.2 h3.1,zac,zak,zak]
     have fin:∀c:T AV,ziZ h b .dead (fun h=>newB h (.live false ((len+n)*s) c) fun b' h=>.val (.slice b' 0 (len+n) (.un s)) h)=RV.val (.slice η.nx 0 (len+n) (.un s)) ⟨h.nx+1,zaK Deep.d h.nx (zaK Deep.d b h.m .dead) (.live false ((len+n)*s) c)⟩:=fun c=>by
      rw[zdx,zgE (h:=⟨h.nx,zaK Deep.d b h.m .dead⟩) (by show h.nx<_;rw[r.nx];exact hn)]
      show RV.val (.slice h.nx 0 (len+n) (.un s)) _=_
      rw[r.nx]
     by_cases h0:off=0
     ·rw[if_pos h0,zai.2 h0]
      show csets new cs (len*s) _=_
      rw[zbi]
      exact fin _
     ·rw[if_neg h0,zav.2 h0]
      show cgets cs (len*s) off _=_
      rw[zbL,zbi,zcq,zhP h5 h3.1]
      exact fin _
    ·cases e
 ·cases e
theorem zmh {s bytes n:Nat} {x:AV} {new:List AV} (e:apN s bytes x n new η=.ok v η'):HV (fun h=>zaT s bytes x n new h) η v η':=by
 unfold apN at e
 split at e
 ·split at e
  ·rename_i h1
   cases e
   exact HV.pure fun h=>by show ifB (Nat.beq n 0) _ _=_;rw[zai.2 h1];rfl
  ·rename_i h1
   split at e
   ·rename_i h2
    cases e
    refine HV.eq (g':=fun h=>newBlk h new fun b h=>.val (.slice b 0 n (.un s)) h) (fun h=>?_) (HV.new fun h=>rfl)
    show ifB (Nat.beq n 0) _ (ifB (Nat.ble (n*bytes) 140737488355328) _ _)=_
    rw[zav.2 h1,zah,zad.2 h2];rfl
   ·cases e
 ·rename_i b off len cap
  split at e
  ·rename_i h1
   split at e
   ·rename_i h2
    cases e
    exact HV.pure fun h=>by show ifB (Nat.ble ((len+n)*bytes) 140737488355328) (ifB (Nat.beq n 0) _ _) _=_;rw[zad.2 h1,zac,zai.2 h2];rfl
   ·rename_i h2
    split at e
    ·refine HV.eq (fun h=>?_) (zxA e)
     show ifB (Nat.ble ((len+n)*bytes) 140737488355328) (ifB (Nat.beq n 0) _ _) _=_
     rw[zad.2 h1,zac,zav.2 h2];rfl
    ·rename_i es
     split at e
     ·rename_i h3
      refine HV.eq (fun h=>?_) (zxz e)
      show ifB (Nat.ble ((len+n)*bytes) 140737488355328) (ifB (Nat.beq n 0) _ (ifB (Nat.beq es s) _ _)) _=_
      rw[zad.2 h1,zac,zav.2 h2,zah,zai.2 h3];rfl
     ·cases e
  ·cases e
 ·cases e
theorem zov {s bytes:Nat} {x y:AV} (e:zb5 s bytes x y η=.ok v η'):HV (fun h=>zuy s bytes x y h) η v η':=by
 unfold zb5 at e
 split at e
 ·split at e
  ·rename_i n u h1
   refine HV.eq (fun h=>?_) (zmh e)
   show ifB (Nat.beq s 1) (forceL (byteCells n u) fun l=>zaT s bytes x n l h) _=_
   rw[zai.2 h1,zac,za3]
  ·cases e
 ·exact zmh e
 ·rename_i b off len cp
  by_cases hl0:len=0
  ·rw[if_pos hl0]at e
   refine HV.eq (fun h=>?_) (zmh e)
   show ifB (Nat.beq len 0) (zaT s bytes x 0 [] h) _=_
   rw[zai.2 hl0];rfl
  rw[if_neg hl0]at e
  unfold zsA at e
  split at e
  ·rename_i r hr
   obtain⟨ro,l,hb,h2,rfl⟩:=zjT hr
   obtain⟨k0,k⟩:=zmh e
   refine HV.eq (fun h=>?_) (HV.blk (k:=fun _ sz cs h=>ifB (Nat.ble (Nat.add off (Nat.mul len s)) sz) (cgets cs (Nat.mul len s) off fun new=>zaT s bytes x len new h) (.fail 40)) hb ⟨k0,fun hd _ h cs r h3 h4=>?_⟩)
   ·show ifB (Nat.beq len 0) _ _=_
    rw[zav.2 hl0];rfl
   ·obtain⟨h',a,c⟩:=k hd h r
    refine⟨h',?_,c⟩
    show ifB (Nat.ble (off+len*s) l.length) _ _=_
    rw[zad.2 h2,zac,zbL,show Nat.mul len s=len*s from rfl,zhP h4 h2]
    exact a
  ·cases e
 ·cases e
theorem app_hv {t t2:TypeId} {x y:AV} (e:zxy P (zaz P t) (zaz P t2) x y η=.ok v η'):HV (fun h=>(ze8 P t t2).f x y h) η v η':=by
 unfold zxy at e
 split at e
 ·rename_i el s bytes k h1 h2
  split at e
  ·cases e
  ·rename_i h3
   split at e
   ·rename_i z hz
    obtain⟨kd,a,rfl,h4,e⟩:=zcX e
    split at e
    ·rename_i h5
     refine HV.eq (fun h=>?_) (zmh e)
     unfold ze8
     rw[h1]
     dsimp only
     rw[show Nat.mul s bytes=s*bytes from rfl,zav.2 h3,zah,hz]
     dsimp only
     unfold zev
     rw[h2]
     dsimp only
     rw[zac]
     refine(zby h4 fun n=>ifB (zh3 n bytes) (forceL (lrep n (zaX z)) fun l=>zaT s bytes x n l h) (.fail 79)).trans ?_
     show ifB (Nat.ble (a*bytes) 140737488355328) _ _=_
     rw[zad.2 h5,zac,za3,zki];rfl
    ·cases e
   ·cases e
 ·rename_i el s bytes h1 h2
  split at e
  ·cases e
  ·rename_i h3
   split at e
   ·rename_i z hz
    refine HV.eq (fun h=>?_) (zov e)
    unfold ze8
    rw[h1]
    dsimp only
    rw[show Nat.mul s bytes=s*bytes from rfl,zav.2 h3,zah,hz]
    dsimp only
    unfold zev zjv
    rw[h2];rfl
   ·cases e
 ·rename_i el s bytes a1 a2 a3 h1 h2
  split at e
  ·cases e
  ·rename_i h3
   split at e
   ·rename_i z hz
    refine HV.eq (fun h=>?_) (zov e)
    unfold ze8
    rw[h1]
    dsimp only
    rw[show Nat.mul s bytes=s*bytes from rfl,zav.2 h3,zah,hz]
    dsimp only
    unfold zev zjv
    rw[h2];rfl
   ·cases e
 ·cases e
theorem zvm {s b off n:Nat} {new:List AV} (e:cpB s b off n (some new) (η.f b) η=.ok v η'):HV (fun h=>zuf s b off n new h) η v η':=by
 unfold cpB at e
 split at e
 ·rename_i new' l ho hb
  cases ho
  split at e
  ·rename_i h1
   cases e
   refine HV.eq (fun h=>?_) (HV.blk (k:=fun ro sz cs h=>ifB ro (.fail 44) (ifB (Nat.ble (Nat.add off (Nat.mul n s)) sz) (csets new cs off fun cs=>ziZ h b (.live false sz cs) fun h=>mkLen n h) (.fail 44))) hb ⟨0,fun _ hm h cs r h3 h4=>⟨_,?_,r.put hm (ze9 h4 off new)⟩⟩)
   ·rfl
   ·show ifB (Nat.ble (off+n*s) l.length) _ _=_
    rw[zad.2 h1.1,zac,zbi,zdx]
    show ifB (Nat.ble n 9223372036854775807) _ _=_
    rw[zad.2 h1.2];rfl
  ·cases e
 ·cases e
theorem cl_hv {t:TypeId} {x:AV} (e:clN P (zaz P t) x η=.ok v η'):HV (fun h=>(ziF P t).f x h) η v η':=by
 unfold clN at e
 split at e
 ·rename_i el s by' b off len cp h1
  cases hz:zaS P el with
  |none=>rw[hz]at e;cases e
  |some z =>
   rw[hz]at e
   dsimp only at e
   split at e
   ·rename_i h2
    cases e
    refine HV.pure fun h=>?_
    unfold ziF
    rw[h1]
    dsimp only
    rw[hz]
    show ifB (Nat.beq len 0) _ _=_
    rw[zai.2 h2,zac]
   ·rename_i h2
    unfold clB at e
    split at e
    ·rename_i l hb
     split at e
     ·rename_i h3
      cases e
      refine HV.eq (fun h=>?_) (HV.blk (k:=fun ro sz cs h=>ifB ro (.fail 82) (ifB (Nat.ble (Nat.add off (Nat.mul len s)) sz) (csets (ziV len (zaX z)) cs off fun cs=>ziZ h b (.live false sz cs) fun h=>.val und h) (.fail 82))) hb ⟨0,fun _ hm h cs r h4 h5=>⟨_,?_,r.put hm (ze9 h5 off (ziV len (zaX z)))⟩⟩)
      ·unfold ziF
       rw[h1]
       dsimp only
       rw[hz]
       show ifB (Nat.beq len 0) _ _=_
       rw[zav.2 h2,zah,za3,zki]
       rfl
      ·show ifB (Nat.ble (off+len*s) l.length) _ _=_
       rw[zad.2 h3,zac,zbi,zdx]
     ·cases e
    ·cases e
 ·cases e
theorem cp_hv {t:TypeId} {x y:AV} (e:cpN (zaz P t) x y η=.ok v η'):HV (fun h=>(ziB P t).f x y h) η v η':=by
 unfold cpN at e
 split at e
 ·rename_i el s by' b off len cp n u h1
  split at e
  ·rename_i h2
   refine HV.eq (fun h=>?_) (zvm e)
   unfold ziB
   rw[h1]
   show ifB (Nat.beq s 1) (forceN (zjp n len) fun n=>forceL (byteCells n u) fun l=>zuf s b off n l h) _=_
   rw[zai.2 h2,zac,zak,za3,zeT]
  ·cases e
 ·rename_i el s by' b off len cp b' off' len' cp' h1
  cases hr:zsN (η.f b') off' (min len' len*s) with
  |none=>rw[hr]at e;unfold cpB at e;cases e
  |some r =>
   rw[hr]at e
   obtain⟨ro,l,hb,h2,rfl⟩:=zjT hr
   obtain⟨k0,k⟩:=zvm e
   refine HV.eq (fun h=>?_) (HV.blk (k:=fun _ sz' cs' h=>ifB (Nat.ble (Nat.add off' (Nat.mul (min len' len) s)) sz') (cgets cs' (Nat.mul (min len' len) s) off' fun l=>zuf s b off (min len' len) l h) (.fail 45)) hb ⟨k0,fun hd _ h cs r h3 h4=>?_⟩)
   ·unfold ziB
    rw[h1]
    show forceN (zjp len' len) _=_
    rw[zak,zeT]
   ·obtain⟨h',a,c⟩:=k hd h r
    refine⟨h',?_,c⟩
    show ifB (Nat.ble (off'+min len' len*s) l.length) _ _=_
    rw[zad.2 h2,zac,zbL,show Nat.mul (min len' len) s=min len' len*s from rfl,zhP h4 h2]
    exact a
 ·rename_i h1;cases e;refine HV.pure fun h=>?_;unfold ziB;rw[h1];rfl
 ·rename_i h1;cases e;refine HV.pure fun h=>?_;unfold ziB;rw[h1];rfl
 ·rename_i h1;cases e;refine HV.pure fun h=>?_;unfold ziB;rw[h1];rfl
 ·rename_i h1;cases e;refine HV.pure fun h=>?_;unfold ziB;rw[h1];rfl
 ·cases e
theorem zwV {x y:AV} (e:zo4 x y=some v):∀ [Deep] (h:H),minA x y h=.val v h:=by
 unfold zo4 at e
 split at e
 ·split at e
  ·rename_i k a k' b h1
   cases e
   intro _ h
   show ifB (keq k k') (mkI k (ifB (ltN k b a) b a) h) _=_
   rw[h1,zac,za5,zbz]
  ·cases e
 ·cases e
theorem zht {e:TypeId} (h:zpe (zaz P e)=true):zpS P e=true:=by
 unfold zpe at h
 unfold zpS
 split at h
 ·rename_i h1;rw[h1];rfl
 ·cases h
theorem zxf {s d:TypeId} {x:AV} (e:zpT P (zaz P s) (zaz P d) x η=.ok v η'):HV (fun h=>(zez P s d).f x h) η v η':=by
 unfold zpT at e
 split at e
 ·rename_i k' k0 k a h1 h2
  cases e
  refine HV.pure fun h=>?_
  unfold zez
  rw[h1]
  dsimp only
  unfold zev
  rw[h2]
  show mkI k' (ifB (nneg k a) (Nat.mod a (zaH k')) (res k' (sgn k a))) h=_
  rw[za5,zbz];rfl
 ·rename_i n u h1 h2
  cases e
  refine HV.pure fun h=>?_
  unfold zez
  rw[h1]
  dsimp only
  unfold zk1
  rw[h2];rfl
 ·rename_i el s1 by' h1 h2
  split at e
  ·rename_i h3
   cases e
   refine HV.pure fun h=>?_
   unfold zez
   rw[h1]
   dsimp only
   unfold zk1
   rw[h2]
   dsimp only
   rw[zht h3];rfl
  ·cases e
 ·rename_i el s1 by' b o l cp h1 h2
  split at e
  ·rename_i h3
   unfold strR at e
   split at e
   ·rename_i r hr
    obtain⟨ro,row,hb,h4,rfl⟩:=zjT hr
    unfold strO at e
    split at e
    ·rename_i m hm
     cases e
     refine HV.eq (fun h=>?_) (HV.blk (k:=fun _ sz cs h=>ifB (Nat.ble (Nat.add o l) sz) (cgets cs l o fun l'=>bytesOf l' fun v=>.val (.str l v) h) (.fail 22)) hb ⟨0,fun _ _ h cs r h5 h6=>⟨h,?_,r⟩⟩)
     ·unfold zez
      rw[h1]
      dsimp only
      unfold zk1
      rw[h2]
      dsimp only
      rw[zht h3];rfl
     ·show ifB (Nat.ble (o+l) row.length) _ _=_
      rw[zad.2 h4,zac,zbL,zhP h6 h4,zjG hm]
    ·cases e
   ·cases e
  ·cases e
 ·rename_i el s1 by' n u h1 h2
  split at e
  ·rename_i h3
   cases e
   refine HV.eq (g':=fun h=>newBlk h (byteCells n u) fun b h=>.val (.slice b 0 n (.un 1)) h) (fun h=>?_) (HV.new fun h=>rfl)
   unfold zez
   rw[h1]
   dsimp only
   rw[zht h3,zac]
   have hne:Nat.beq s d=false:=zav.2 fun q=>by subst q;rw[h2]at h1;cases h1
   rw[hne,zah]
   unfold zik
   rw[h2]
   show forceL (byteCells n u) _=_
   rw[za3]
  ·cases e
 ·cases e
theorem cvI_hv {s d:TypeId} {x:AV} (e:(if s=d then cvI P (zaz P d) x η (zpT P (zaz P s) (zaz P d) x η) else zpT P (zaz P s) (zaz P d) x η)=.ok v η'):HV (fun h=>(zez P s d).f x h) η v η':=by
 split at e
 ·rename_i hsd
  unfold cvI at e
  split at e
  ·rename_i el sz by' b o l c h1
   split at e
   ·rename_i h3
    split at e
    ·cases e
    ·rename_i h0
     unfold roN at e
     split at e
     ·rename_i row hb
      cases e
      refine HV.eq (fun h=>?_) (HV.blk (k:=fun ro _ _ h=>ifB ro (.fail 24) (ifB (Nat.beq l 0) (.fail 24) (.val (.slice b o l c) h))) hb ⟨0,fun _ _ h cs r h5 h6=>⟨h,?_,r⟩⟩)
      ·unfold zez
       rw[h1]
       dsimp only
       rw[zht h3,zac,zai.2 hsd,zac];rfl
      ·show ifB false _ _=_
       rw[zah,zav.2 h0,zah]
     ·cases e
   ·exact zxf e
  ·exact zxf e
 ·exact zxf e
theorem zw8 {fv:AV} {args:List AV} (e:zvb fv args=.ok v η'):False:=by unfold zvb at e;split at e<;>cases e
theorem bi_ev {b:Builtin} {args:List Operand} {ts:List TypeId} (e:biR P b args ts φ η=.ok v η'):EV (zgn P b args ts) φ η v η':=by
 unfold biR at e
 split at e
 ·rename_i x t r
  obtain⟨rfl,e1⟩:=zwZ e
  exact EV.pure fun call fr h hf=>by show(zrj P t).f ((zag P x).f fr) h=_;rw[zaL hf];exact e1 h
 ·rename_i x t r
  obtain⟨rfl,e1⟩:=zxq e
  exact EV.pure fun call fr h hf=>by show(zvq P t).f ((zag P x).f fr) h=_;rw[zaL hf];exact e1 h
 ·rename_i x y t t2 r
  exact EV.of (fun call fr h hf=>by show(ze8 P t t2).f ((zag P x).f fr) ((zag P y).f fr) h=_;rw[zaL hf,zaL hf]) (app_hv e)
 ·rename_i x y t t2 r
  exact EV.of (fun call fr h hf=>by show(ziB P t).f ((zag P x).f fr) ((zag P y).f fr) h=_;rw[zaL hf,zaL hf]) (cp_hv e)
 ·rename_i x y t t2 r
  obtain⟨h4,rfl⟩:=zh4 e
  exact EV.pure fun call fr h hf=>by show minA ((zag P x).f fr) ((zag P y).f fr) h=_;rw[zaL hf,zaL hf];exact zwV h4 h
 ·rename_i x t r
  exact EV.of (fun call fr h hf=>by show(ziF P t).f ((zag P x).f fr) h=_;rw[zaL hf]) (cl_hv e)
 ·cases e
theorem zxr {c:Call} (e:zun P c φ η=.ok v η'):EV (zgN P c) φ η v η':=by
 unfold zun at e
 split at e
 ·exact(zw8 e).elim
 ·rename_i b hc
  unfold zgN
  rw[hc]
  exact bi_ev e
 ·cases e
theorem zn3 [Deep] {q:Q} {k:AV} {f:AV→RV} {n:RV}:∀{es:List (AV×AV)} {o:Option AV},zrK q k es=some o→zeS q k es f n=match o with|some v=>f v|none=>n
 | [],o,e=>by cases e;rfl
 |x::r,o,e=>by
  unfold zrK at e
  show osome 49 (q k x.1) (fun b=>ifB b (f x.2) (zeS q k r f n))=_
  cases hq:q k x.1 with
  |none=>rw[hq]at e;cases e
  |some b =>
   rw[hq]at e
   cases b with
   |true=>cases e;rfl
   |false=>exact zn3 (es:=r) e
theorem zq3 [Deep] {q:Q} {k v:AV}:∀{es es':List (AV×AV)} (c:List (AV×AV)→RV),zoS q k v es=some es'→zmS q k v es c=c es'
 | [],es',c,e=>by cases e;rfl
 |x::r,es',c,e=>by
  unfold zoS at e
  show osome 49 (q k x.1) (fun b=>ifB b (c ((k,v)::r)) (zmS q k v r fun r=>c (x::r)))=_
  cases hq:q k x.1 with
  |none=>rw[hq]at e;cases e
  |some b =>
   rw[hq]at e
   cases b with
   |true=>cases e;rfl
   |false =>
    cases hr:zoS q k v r with
    |none=>rw[hr]at e;cases e
    |some r' =>
     rw[hr]at e
     cases e
     exact zq3 (es:=r) (fun r=>c (x::r)) hr
theorem zrl {key:TypeId} {q:AV→AV→Option Bool} (e:zw0 (zaz P key)=some q):zeX P key=true∧(zkV P key).f=q:=by
 unfold zeX zkV
 unfold zw0 at e
 split at e<;>first|(rename_i h;rw[h];cases e;exact⟨rfl,rfl⟩)|cases e
theorem zve {x:BN} {es:List (AV×AV)} (e:esB x=some es):x=.mp es:=by
 unfold esB at e
 split at e
 ·cases e;rfl
 ·cases e
theorem HV.mpk {k:∀ [Deep],List (AV×AV)→H→RV} {b:Nat} {es:List (AV×AV)} (hb:η.f b=.mp es)
  (e:∃k0,∀ [Deep],k0≤Deep.d→b<zae→∀(h:H),Rep h η→∃h',k es h=.val v h'∧Rep h' η'):HV (fun h=>mpk (hget h b) fun es=>k es h) η v η':=by
 obtain⟨k0,e⟩:=e
 refine⟨max k0 (b+1),fun hd h r=>?_⟩
 have hm:b<zae:=zdC (show b<max k0 (b+1) by omega) hd
 have q:=r.blk b hm
 rw[hb]at q
 obtain⟨h',e1,e2⟩:=e (by omega) hm h r
 refine⟨h',?_,e2⟩
 show Eng.mpk (hget h b) _=_
 rw[show hget h b=.mp es from q]
 exact e1
theorem mkM_ev {t:TypeId} {r:Option Operand} (e:mkMN r η=.ok v η'):EV (zrW P t r) φ η v η':=by
 cases r with
 |some _=>cases e
 |none =>
  cases e
  refine⟨η.nx+1,fun hd call fr h hf r=>?_⟩
  have hm:η.nx<zae:=zdC (Nat.lt_succ_self _) hd
  refine⟨⟨h.nx+1,zaK Deep.d h.nx h.m (.mp [])⟩,?_,r.new hm rfl⟩
  show newB h (.mp []) _=_
  rw[zgE (by rw[r.nx];exact hm),r.nx]
theorem lk_ev {t:TypeId} {x k:Operand} {ok:Bool} (e:lkN P (zaz P t) (opd φ x) (opd φ k) ok η=.ok v η'):EV (ze3 P t x k ok) φ η v η':=by
 unfold lkN at e
 split at e
 ·rename_i key elem ht
  split at e
  ·rename_i q z hq hz
   obtain⟨k1,k2⟩:=zrl hq
   unfold lkE at e
   split at e
   ·rename_i es hes
    unfold lkO at e
    split at e
    ·rename_i o ho
     cases e
     have fin:∀ [Deep] (h:H),zeS q (opd φ k) es (fun v=>ifB ok (.val (.tup [v,.bool true]) h) (.val v h)) (ifB ok (.val (.tup [z,.bool false]) h) (.val z h))=.val (lkV ok z o) h:=fun h=>by
      rw[zn3 ho]
      cases o<;>cases ok<;>rfl
     have hE:∀ [Deep] (call:Caller) (fr:Fr) (h:H),FrR fr φ→(ze3 P t x k ok).f call fr h=zmT (opd φ x) h fun es=>zeS q (opd φ k) es (fun v=>ifB ok (.val (.tup [v,.bool true]) h) (.val v h)) (ifB ok (.val (.tup [z,.bool false]) h) (.val z h)):=fun call fr h hf=>by
      unfold ze3
      rw[ht]
      dsimp only
      rw[k1,zac,hz]
      dsimp only
      rw[zaP,zaL hf,zaL hf,k2]
     unfold esN at hes
     split at hes
     ·rename_i b hx
      have hb:=zve hes
      refine EV.of (fun call fr h hf=>(hE call fr h hf).trans (by rw[hx];rfl)) (HV.mpk hb ⟨0,fun _ _ h r=>⟨h,fin h,r⟩⟩)
     ·rename_i hx
      cases hes
      exact EV.pure fun call fr h hf=>(hE call fr h hf).trans (by rw[hx];exact fin h)
     ·cases hes
    ·cases e
   ·cases e
  ·cases e
 ·cases e
theorem mu_ev {t:TypeId} {m k x:Operand} (e:muN P (zaz P t) (opd φ m) (opd φ k) (opd φ x) η=.ok v η'):EV (zd5 P t m k x) φ η v η':=by
 unfold muN at e
 split at e
 ·rename_i key elem b ht hm
  split at e
  ·rename_i q hq
   obtain⟨k1,k2⟩:=zrl hq
   unfold muE at e
   split at e
   ·rename_i es hes
    have hb:=zve hes
    unfold muO at e
    split at e
    ·rename_i es' ho
     cases e
     refine EV.of (g:=fun h=>mpk (hget h b) fun es=>zmS q (opd φ k) (opd φ x) es fun es=>ziZ h b (.mp es) fun h=>.val und h) (fun call fr h hf=>?_) (HV.mpk hb ⟨0,fun _ hm h r=>⟨⟨h.nx,zaK Deep.d b h.m (.mp es')⟩,?_,r.put hm rfl⟩⟩)
     ·unfold zd5
      rw[ht]
      dsimp only
      rw[k1,zac]
      dsimp only
      rw[zaP,zaP,zaL hf,zaL hf,zaL hf,hm,k2];rfl
     ·rw[zq3 _ ho,zdx]
    ·cases e
   ·cases e
  ·cases e
 ·cases e
theorem zqN {op:Op} (e:opR P op φ η=.ok v η'):EV (zt2 P op) φ η v η':=by
 cases op<;>(try (cases e;done))<;>unfold opR at e<;>dsimp only at e
 case move x=>cases e;exact EV.pure fun call fr h hf=>by show mkV ((zag P x).f fr) h=_;rw[zaL hf,zcS]
 case assign x=>cases e;exact EV.pure fun call fr h hf=>by show mkV ((zag P x).f fr) h=_;rw[zaL hf,zcS]
 case pick c a b =>
  unfold zoT at e
  split at e
  ·rename_i h1;cases e
   exact EV.pure fun call fr h hf=>by show asBoolV ((zag P c).f fr) _=_;rw[zaL hf,h1];show mkV ((zag P a).f fr) h=_;rw[zaL hf,zcS]
  ·rename_i h1;cases e
   exact EV.pure fun call fr h hf=>by show asBoolV ((zag P c).f fr) _=_;rw[zaL hf,h1];show mkV ((zag P b).f fr) h=_;rw[zaL hf,zcS]
  ·cases e
 case alloc t =>
  cases hz:zaS P t with
  |none=>rw[hz]at e;cases e
  |some z =>
   rw[hz]at e
   refine EV.of (fun call fr h hf=>?_) (zu1 rfl e)
   show(ziu P t).f call fr h=_
   unfold ziu;rw[hz]
 case box t x =>
  cases hc:zbX (opd φ x) with
  |none=>rw[hc]at e;cases e
  |some l =>
   rw[hc]at e
   refine EV.of (fun call fr h hf=>?_) (zu1 rfl e)
   show forceV ((zag P x).f fr) _=_
   rw[zaP,zaL hf,ziH hc]
 case build t ps=>exact zuq e
 case buildSlice t n ps=>exact zkH e
 case load t x=>exact EV.of (fun call fr h hf=>by show(zfK P t).f ((zag P x).f fr) h=_;rw[zaL hf]) (zrf e)
 case store t x y=>exact EV.of (fun call fr h hf=>by show forceV ((zag P y).f fr) _=_;rw[zaP,zaL hf,zaL hf]) (zs6 e)
 case nilCheck x =>
  unfold nilN at e
  split at e
  ·rename_i h1;cases e;exact EV.pure fun call fr h hf=>by show zlv ((zag P x).f fr) h=_;rw[zaL hf,h1];rfl
  ·rename_i h1;cases e;exact EV.pure fun call fr h hf=>by show zlv ((zag P x).f fr) h=_;rw[zaL hf,h1];rfl
  ·cases e
 case binOp op t x y t' =>
  obtain⟨h1,rfl⟩:=zh4 e
  refine EV.pure fun call fr h hf=>?_
  show(binA P op t (ifB (za6 x) true (za6 y))).f ((zag P x).f fr) ((zag P y).f fr) h=_
  rw[zaL hf,zaL hf]
  have:ifB (za6 x) true (za6 y)=(za6 x||za6 y):=by cases za6 x<;>rfl
  rw[this]
  exact zxw h1 h
 case unOp op t x =>
  obtain⟨h1,rfl⟩:=zh4 e
  refine EV.pure fun call fr h hf=>?_
  show(unA op).f ((zag P x).f fr) h=_
  rw[zaL hf]
  exact unN_ok h1 h
 case convert s d x=>exact EV.of (fun call fr h hf=>by show(zez P s d).f ((zag P x).f fr) h=_;rw[zaL hf]) (cvI_hv e)
 case makeFunc fn a c =>
  unfold mkFN at e
  split at e
  ·rename_i f
   cases e
   refine EV.pure fun call fr h hf=>?_
   show(ogets P a.toList).f fr (fun l=>(ogets P c.toList).f fr fun c=>.val (.func f l c) h)=_
   rw[zgb hf,zgb hf]
  ·cases e
 case makeSlice t l c=>exact mkS_ev e
 case slice t x lo hi mx =>
  split at e
  ·cases e
  ·rename_i h1
   exact ztb (by simpa using h1) e
 case fieldAddr t x f=>exact zlR e
 case field t x f=>exact ztZ e
 case indexAddr t x i=>exact zlN e
 case index t x i=>exact ztP e
 case extract x i=>exact zpv e
 case call c=>exact zxr e
 case makeMap t r=>exact mkM_ev (P:=P) (t:=t) e
 case lookup t x k ok=>exact lk_ev e
 case mapUpdate t m k x=>exact mu_ev e
section
variable {f:FuncId} {as:List AV}
theorem zh5 {o:Option AV}:okO o η≠.call f as:=by unfold okO;split<;>exact fun h=>by cases h
theorem zcY {i:AV} {k:Nat→RES} (hk:∀n,k n≠.call f as):zkW i k≠.call f as:=by
 unfold zkW
 split
 ·split
  ·exact hk _
  ·exact fun h=>by cases h
 ·exact fun h=>by cases h
theorem zsk {o:Option AV} {d:Nat} {k:Nat→RES} (hk:∀n,k n≠.call f as):zur o d k≠.call f as:=by
 unfold zur
 split
 ·exact hk _
 ·exact zcY hk
theorem zdL {lo hi:Option AV} {len top:Nat} {k:Nat→Nat→RES} (hk:∀n m,k n m≠.call f as):zfQ lo hi len top k≠.call f as :=
 zsk fun _=>zsk fun _=>by split;exact hk _ _;exact fun h=>by cases h
theorem zhj {b off l hh c s:Nat}:ziX b off l hh c s η≠.call f as:=by unfold ziX;split<;>exact fun h=>by cases h
theorem zqe {lo hi:Option AV} {b off len:Nat} {cap:Cp} {r:RES} (hr:r≠.call f as):zsM lo hi b off len cap η r≠.call f as:=by
 unfold zsM
 split
 ·exact zcY fun _=>by split;exact fun h=>(by cases h);exact hr
 ·exact hr
theorem slN_nc {td:TD} {x:AV} {lo hi mx:Option AV}:slN td x lo hi mx η≠.call f as:=by
 unfold slN
 split
 ·exact zdL fun _ _ h=>by cases h
 ·exact zdL fun _ _ h=>by cases h
 ·exact zcY fun _=>by split;exact zdL fun _ _ h=>(by cases h);exact fun h=>by cases h
 ·exact zqe (zdL fun _ _=>zhj)
 ·exact zcY fun _=>by split;exact zdL fun _ _=>zhj;exact fun h=>by cases h
 ·refine zqe ?_
  split
  ·exact zdL fun _ _ h=>by cases h
  ·exact fun h=>by cases h
 ·split
  ·exact zcY fun _=>by split;exact zdL fun _ _=>zhj;exact fun h=>by cases h
  ·exact fun h=>by cases h
 ·exact zdL fun _ _=>zhj
 ·exact fun h=>by cases h
theorem ldP_nc {ty:Option (Nat×Nat×Bool)} {x:AV}:ldP ty x η≠.call f as:=by
 unfold ldP
 split
 ·unfold ldB
  split
  ·split
   ·split<;>exact fun h=>by cases h
   ·exact zh5
  ·exact fun h=>by cases h
 ·exact fun h=>by cases h
theorem stP_nc {ty:Option (Nat×Nat×Bool)} {x y:AV}:stP ty x y η≠.call f as:=by
 unfold stP stV stB
 repeat' split
 all_goals exact fun h=>by cases h
theorem zq1 {o:Option (List AV)}:zu2 o η≠.call f as:=by unfold zu2;split<;>exact fun h=>by cases h
theorem zxu {td:TD} {z:Option AV} {ps:List (Nat×Operand)}:zxv td z φ ps η≠.call f as:=by
 unfold zxv aggO
 repeat' split
 all_goals exact fun h=>by cases h
theorem zxt {td:TD} {n:Nat} {ps:List (Nat×Operand)}:zvr P td n φ ps η≠.call f as:=by
 unfold zvr slO
 repeat' split
 all_goals exact fun h=>by cases h
theorem zwR {td:TD} {l c:AV}:zwS P td l c η≠.call f as:=by
 unfold zwS
 split
 ·split
  ·exact zcY fun _=>zcY fun _=>by split<;>exact fun h=>by cases h
  ·exact fun h=>by cases h
 ·exact fun h=>by cases h
theorem zr2 {s d:TD} {x:AV}:zpT P s d x η≠.call f as:=by
 unfold zpT strR strO
 repeat' split
 all_goals exact fun h=>by cases h
theorem cvI_nc {s d:TypeId} {x:AV}:(if s=d then cvI P (zaz P d) x η (zpT P (zaz P s) (zaz P d) x η) else zpT P (zaz P s) (zaz P d) x η)≠.call f as:=by
 split
 ·unfold cvI roN
  split
  ·split
   ·split
    ·exact fun h=>by cases h
    ·split<;>exact fun h=>by cases h
   ·exact zr2
  ·exact zr2
 ·exact zr2
theorem iaN_nc {td:TD} {x i:AV}:iaN td x i η≠.call f as:=by
 unfold iaN
 split
 ·exact zcY fun _=>by split<;>exact fun h=>by cases h
 ·exact zcY fun _=>by split<;>exact fun h=>by cases h
 ·exact fun h=>by cases h
theorem ixN_nc {td:TD} {x i:AV}:ixN td x i η≠.call f as:=by
 unfold ixN
 split
 ·exact zcY fun _=>by split<;>exact fun h=>by cases h
 ·exact zcY fun _=>by split;exact zh5;exact fun h=>by cases h
 ·exact fun h=>by cases h
theorem zvu {s bytes n:Nat} {x:AV} {new:List AV}:apN s bytes x n new η≠.call f as:=by
 unfold apN zsB zsQ ziL
 repeat' split
 all_goals exact fun h=>by cases h
theorem zmg {s bytes:Nat} {x y:AV}:zb5 s bytes x y η≠.call f as:=by
 unfold zb5 zsA
 repeat' split
 all_goals first|exact zvu|exact fun h=>by cases h
theorem biR_nc {b:Builtin} {args:List Operand} {ts:List TypeId}:biR P b args ts φ η≠.call f as:=by
 unfold biR
 split
 ·unfold zlH zpa
  repeat' split
  all_goals exact fun h=>by cases h
 ·unfold capN zpa
  repeat' split
  all_goals exact fun h=>by cases h
 ·unfold zxy
  split
  ·split
   ·exact fun h=>by cases h
   ·split
    ·exact zcY fun _=>by split;exact zvu;exact fun h=>by cases h
    ·exact fun h=>by cases h
  ·repeat' split
   all_goals first|exact zmg|exact fun h=>by cases h
  ·repeat' split
   all_goals first|exact zmg|exact fun h=>by cases h
  ·exact fun h=>by cases h
 ·unfold cpN cpB
  repeat' split
  all_goals exact fun h=>by cases h
 ·exact zh5
 ·unfold clN clB
  repeat' split
  all_goals exact fun h=>by cases h
 ·exact fun h=>by cases h
theorem lkN_nc {td:TD} {x k:AV} {ok:Bool}:lkN P td x k ok η≠.call f as:=by
 unfold lkN lkE lkO
 repeat' split
 all_goals exact fun h=>by cases h
theorem muN_nc {td:TD} {m k x:AV}:muN P td m k x η≠.call f as:=by
 unfold muN muE muO
 repeat' split
 all_goals exact fun h=>by cases h
theorem zwU {r:Option Operand}:mkMN r η≠.call f as:=by
 unfold mkMN
 split
 all_goals exact fun h=>by cases h
theorem ztA {op:Op} (e:opR P op φ η=.call f as):∃c fv,op=.call c∧c.callee=.value fv∧zvb (opd φ fv) (c.args.toList.map (opd φ))=.call f as:=by
 cases op<;>(try (cases e;done))<;>unfold opR at e<;>dsimp only at e
 case call c =>
  unfold zun at e
  split at e
  ·rename_i fv hc;exact⟨c,fv,rfl,hc,e⟩
  ·exact(biR_nc e).elim
  ·cases e
 case pick c a b=>unfold zoT at e;split at e<;>cases e
 case alloc t=>exact(zq1 e).elim
 case box t x=>exact(zq1 e).elim
 case build t ps=>exact(zxu e).elim
 case buildSlice t n ps=>exact(zxt e).elim
 case load t x=>exact(ldP_nc e).elim
 case store t x y=>exact(stP_nc e).elim
 case nilCheck x=>unfold nilN at e;split at e<;>cases e
 case binOp op t x y t'=>exact(zh5 e).elim
 case unOp op t x=>exact(zh5 e).elim
 case convert s d x=>exact(cvI_nc e).elim
 case makeFunc fn a c=>unfold mkFN at e;split at e<;>cases e
 case makeSlice t l c=>exact(zwR e).elim
 case slice t x lo hi mx =>
  split at e
  ·cases e
  ·exact(slN_nc e).elim
 case fieldAddr t x i=>unfold zpr at e;split at e<;>(try split at e)<;>cases e
 case field t x i =>
  unfold fldN at e
  split at e
  ·exact(zh5 e).elim
  ·cases e
 case indexAddr t x i=>exact(iaN_nc e).elim
 case index t x i=>exact(ixN_nc e).elim
 case extract x i =>
  unfold exN at e
  split at e
  ·exact(zh5 e).elim
  ·cases e
 case makeMap t r=>exact(zwU e).elim
 case lookup t x k ok=>exact(lkN_nc e).elim
 case mapUpdate t m k x=>exact(muN_nc e).elim
end
theorem zrI {fv:AV} {args:List AV} {f:FuncId} {as:List AV} (e:zvb fv args=.call f as):∃a c,fv=.func f a c∧as=a++(args++c):=by
 unfold zvb at e
 split at e
 ·cases e;exact⟨_,_,rfl,rfl⟩
 ·cases e
end
end Go.Eng
namespace Go.Eng
set_option autoImplicit false
noncomputable section
abbrev Kont:=Ex→FN→HN→Prop
abbrev Spec:=FuncId→List AV→HN→AV→HN→Prop
def zfq (C:Spec) (r:RES) (η:HN) (d:Option Nat) (k:FN→HN→Prop) (φ:FN):Prop:=match r with
 |.no=>False
 |.ok v η'=>k (putN d v φ) η'
 |.call f args=>∃v η',C f args η v η'∧k (putN d v φ) η'
def zeC (all:List Oper) (g:Option (Nat×Bool)) (φ:FN):Bool:=match g with
 |none=>true
 |some (j,w)=>match ziv all j with|some d=>asBool (φ d) (fun b=>zpH b w) false|none=>false
def wpOps (P:Program) (C:Spec) (all:List Oper):List Oper→(FN→HN→Prop)→FN→HN→Prop
 | [],K=>K
 |o::r,K=>fun φ η=>match zeC all o.guard φ with
  |true=>zfq C (opR P o.op φ η) η o.dst (wpOps P C all r K) φ
  |false=>wpOps P C all r K (putN o.dst und φ) η
inductive DK where
 |alloc|eff|pure
 |read (lo hi:Nat)
structure RecN where
 op:Op
 φ:FN
 v:AV
 lo:Nat
 hi:Nat
def okV (r:RES) (v:AV):Prop:=match r with|.ok v' _=>v'=v|_=>False
def zfF (P:Program) (r:RecN):List HN→Nat→Prop
 | [],_=>True
 |η::ηs,k=>(r.lo≤k→k≤r.hi→okV (opR P r.op r.φ η) r.v)∧zfF P r ηs (k-1)
def zmy (P:Program) (ηs:List HN) (k:Nat):List RecN→Prop
 | []=>True
 |r::rs=>zfF P r ηs k∧zmy P ηs k rs
def HN.at_ (η:HN) (n:Nat):HN:=⟨n,η.f⟩
def zvh (k:DK) (η:HN) (ηs:List HN):List HN:=match k with|.eff=>η::ηs|_=>ηs
def zbg (P:Program) (C:Spec) (all:List Oper) (K:FN→HN→Prop) (nx0:Nat):List DK→List Oper→Nat→FN→HN→List HN→List RecN→Prop
 | [],[],_,φ,η,ηs,rs=>zmy P ηs (ηs.length-1) rs∧K φ η
 |k::ks,o::r,j,φ,η,ηs,rs=>match zeC all o.guard φ with
  |true=>(match k with
   |.alloc=>(match opR P o.op φ (η.at_ (nx0+j)) with|.ok v η'=>zbg P C all K nx0 ks r (j+1) (putN o.dst v φ) (η'.at_ η.nx) ηs rs|_=>False)
   |.eff=>zfq C (opR P o.op φ η) η o.dst (fun φ' η'=>zbg P C all K nx0 ks r (j+1) φ' η' (η'::ηs) rs) φ
   |.pure=>(match opR P o.op φ η with|.ok v η'=>zbg P C all K nx0 ks r (j+1) (putN o.dst v φ) η' ηs rs|_=>False)
   |.read lo hi=>(match opR P o.op φ η with|.ok v η'=>zbg P C all K nx0 ks r (j+1) (putN o.dst v φ) η' ηs (⟨o.op,φ,v,lo,hi⟩::rs)|_=>False))
  |false=>zbg P C all K nx0 ks r (j+1) (putN o.dst und φ) η (zvh k η ηs) rs
 |_,_,_,_,_,_,_=>False
def zft:List DK→Bool
 | []=>false
 |.alloc::_=>true
 |_::r=>zft r
def zjd (P:Program) (C:Spec) (plan:List DK) (ops:List Oper) (K:FN→HN→Prop) (φ:FN) (η:HN):Prop :=
 zbg P C ops K η.nx plan ops 0 φ (η.at_ (if zft plan then η.nx+ops.length else η.nx)) [η.at_ (if zft plan then η.nx+ops.length else η.nx)] []
def zi0 (w:FN→HN→Prop) (K:Kont):Kont:=fun e φ η=>match e with|.normal=>w φ η|.exit i=>K (.exit i) φ η|.ret=>K .ret φ η
def zsm (i:Nat) (K:Kont):Kont:=fun e φ η=>match e with|.normal=>K .normal φ η|.exit j=>if j=i then K .normal φ η else K (.exit j) φ η|.ret=>K .ret φ η
def zkC (c:AV) (a b:FN→HN→Prop) (φ:FN) (η:HN):Prop:=match c with|.bool true=>a φ η|.bool false=>b φ η|_=>False
def zo6 (w:Kont→FN→HN→Prop):Nat→Kont→FN→HN→Prop
 |0,_,_,_=>False
 |m+1,K,φ,η=>w (zi0 (zo6 w m K) K) φ η
abbrev Plans:=Nat→List DK
def wpN (P:Program) (C:Spec) (PT:Plans):Code→Kont→FN→HN→Prop
 |.skip,K=>K .normal
 |.region _ ops false,K=>wpOps P C ops.toList ops.toList (K .normal)
 |.region id ops true,K=>zjd P C (PT id) ops.toList (K .normal)
 |.seq a b,K=>wpN P C PT a (zi0 (wpN P C PT b K) K)
 |.cond c a b,K=>fun φ η=>zkC (opd φ c) (wpN P C PT a K) (wpN P C PT b K) φ η
 |.block i b,K=>wpN P C PT b (zsm i K)
 |.loop b,K=>fun φ η=>∃m,zo6 (wpN P C PT b) m K φ η
 |.exit i,K=>K (.exit i)
 |.ret,K=>K .ret
 |_,_=>fun _ _=>False
def dkEq (a b:DK):Bool:=match a,b with
 |.alloc,.alloc=>true|.eff,.eff=>true|.pure,.pure=>true
 |.read a b,.read c d=>Nat.beq a c&&Nat.beq b d
 |_,_=>false
def zrY (P:Program) (ops:List Oper) (bs:List Nat) (j:Nat) (o:Oper):DK:=match cls P o.op with
 |.alloc=>.alloc
 |.eff=>.eff
 |.read=>ifB (calm P ops bs j) .pure (.read (zep P ops bs j) (ze2 P ops bs j))
 |.pure=>.pure
def zg2 (P:Program) (all:List Oper) (bs:List Nat):List DK→List Oper→Nat→Bool
 | [],[],_=>true
 |k::ks,o::r,j=>dkEq k (zrY P all bs j o)&&zg2 P all bs ks r (j+1)
 |_,_,_=>false
def dstOk (n:Nat) (d:Option Nat):Bool:=match d with|none=>true|some d=>Nat.ble (d+1) n
def zg3 (P:Program) (n:Nat) (o:Oper):Bool:=lall (ze0 P) o.op.operands.toList&&dstOk n o.dst
def zvn (c:Operand):Bool:=match c with|.tmp _=>true|.const (.bool _)=>true|_=>false
def okC (P:Program) (n:Nat) (PT:Plans):Code→Bool
 |.region id ops d=>lall (zg3 P n) ops.toList&&(match d with|true=>zg2 P ops.toList (befs ops.toList) (PT id) ops.toList 0|false=>true)
 |.seq a b=>okC P n PT a&&okC P n PT b
 |.cond c a b=>zvn c&&(okC P n PT a&&okC P n PT b)
 |.block _ b=>okC P n PT b
 |.loop b=>okC P n PT b
 |_=>true
def zaE (P:Program) (nat:∀ [Deep],Nats):Spec:=fun f args η v η'=>∃k0,∀ [Deep],k0≤Deep.d→k0≤Deep.loops→∀m,k0≤m→∀h,Rep h η→∃h',(zbZ P nat m).f f args h=.val v h'∧Rep h' η'
def RunC (P:Program) (nat:∀ [Deep],Nats) (c:∀ [Deep],C) (φ:FN) (η:HN) (e:Ex) (φ':FN) (η':HN):Prop :=
 ∃k0,∀ [Deep],k0≤Deep.d→k0≤Deep.loops→∀m,k0≤m→∀fr h,FrR fr φ→Rep h η→∃fr' h',c.f (zbZ P nat m) fr h=.ok e fr' h'∧FrR fr' φ'∧Rep h' η'
end
section
variable {P:Program} {nat:∀ [Deep],Nats} {PT:Plans} {n:Nat}
theorem FrR.putN {fr:Fr} {φ:FN} {d:Option Nat} (hf:FrR fr φ) (hd:∀t,d=some t→t<512) (v:AV):FrR (ze1 d v fr) (putN d v φ):=by
 cases d with
 |none=>exact hf
 |some d =>
  intro t
  show slot (zaK 3 d fr v) t=upd φ d v t
  haveI:Deep:=⟨0,0⟩
  rw[zfc (hd d rfl)]
  unfold upd
  split
  ·rfl
  ·exact hf t
theorem zvj {d:Option Nat} (h:dstOk n d=true) (hn:n≤512):(∀t,d=some t→t<n)∧∀t,d=some t→t<512:=by
 cases d with
 |none=>exact⟨(fun _ h=>by cases h),(fun _ h=>by cases h)⟩
 |some d =>
  have:d+1≤n:=zad.1 h
  exact⟨(fun t e=>by cases e;omega),(fun t e=>by cases e;omega)⟩
theorem zeh [Deep] {d:Option Nat} (hd:∀t,d=some t→t<n) (v:AV) (fr:Fr) (k:Fr→R):(zds n d).f v fr k=k (ze1 d v fr):=by
 cases d with
 |none=>rfl
 |some d =>
  have:=hd d rfl
  unfold zds
  dsimp only
  rw[zad.2 (show Nat.succ d≤n from this),zac]
  exact zhC 3 R d fr v k
theorem znz {fr:Fr} {φ:FN} (hf:FrR fr φ) (all:List Oper) (g:Option (Nat×Bool)):(zcp all g).f fr=zeC all g φ:=by
 cases g with
 |none=>rfl
 |some g =>
  obtain⟨j,w⟩:=g
  unfold zcp zeC
  dsimp only
  cases ziv all j with
  |none=>rfl
  |some d=>exact congrArg (fun x=>asBool x (fun b=>zpH b w) false) (hf d)
theorem zuV {op:Op} {φ:FN} {η:HN} {d:Option Nat} {k:FN→HN→Prop} (hg:lall (ze0 P) op.operands.toList=true) (w:zfq (zaE P nat) (opR P op φ η) η d k φ) :
  ∃v η',k (putN d v φ) η'∧∃k0,∀ [Deep],k0≤Deep.d→k0≤Deep.loops→∀m,k0≤m→∀fr h,FrR fr φ→Rep h η→∃h',(zbY P op).f (zbZ P nat m) fr h=.val v h'∧Rep h' η':=by
 have he:∀ [Deep],zbY P op=zt2 P op:=by intro _;unfold zbY;rw[hg];rfl
 unfold zfq at w
 split at w
 ·exact w.elim
 ·rename_i v η' hr
  obtain⟨k0,q⟩:=zqN hr
  exact⟨v,η',w,k0,fun h1 _ m _ fr h hf r=>by rw[he];exact q h1 _ fr h hf r⟩
 ·rename_i f args hr
  obtain⟨v,η',⟨k0,c⟩,w⟩:=w
  refine⟨v,η',w,k0,fun h1 h2 m hm fr h hf r=>?_⟩
  obtain⟨h',c1,c2⟩:=c h1 h2 m hm h r
  refine⟨h',?_,c2⟩
  rw[he]
  obtain⟨cl,fv,rfl,h3,h4⟩:=ztA hr
  obtain⟨a,b,h6,rfl⟩:=zrI h4
  show(zgN P cl).f _ fr h=_
  unfold zgN
  rw[h3]
  show(ogets P cl.args.toList).f fr (fun l=>cGo ((zag P fv).f fr) (zbZ P nat m) l h)=_
  rw[zgb hf,zaL hf,h6]
  show forceL (lapp a (lapp (cl.args.toList.map (opd φ)) b)) _=_
  rw[za3,zcq,zcq]
  exact c1
theorem zn7 {α:Type} (p:α→Bool) (l:List α):lall p l=true↔∀x∈l,p x=true:=by
 haveI:Deep:=⟨0,0⟩
 exact zhs p l
theorem zhA (hn:n≤512) (all:List Oper):∀(l:List Oper) (K:FN→HN→Prop) (φ:FN) (η:HN),lall (zg3 P n) l=true→wpOps P (zaE P nat) all l K φ η →
  ∃φ' η',K φ' η'∧RunC P nat (zwH P n all l) φ η .normal φ' η'
 | [],K,φ,η,_,w=>⟨φ,η,w,0,fun _ _ m _ fr h hf r=>⟨fr,h,rfl,hf,r⟩⟩
 |o::l,K,φ,η,ok,w=>by
  have ok':=(zn7 _ _).1 ok
  obtain⟨g1,g2⟩:=Bool.and_eq_true_iff.1 (ok' o (by simp))
  obtain⟨d1,d2⟩:=zvj g2 hn
  have okl:lall (zg3 P n) l=true:=(zn7 _ _).2 fun x hx=>ok' x (List.mem_cons_of_mem _ hx)
  unfold wpOps at w
  split at w
  ·rename_i hw
   obtain⟨v,η1,w,k0,q⟩:=zuV g1 w
   obtain⟨φ',η',hk,k1,q'⟩:=zhA hn all l K _ _ okl w
   refine⟨φ',η',hk,max k0 k1,fun h1 h2 m hm fr h hf r=>?_⟩
   obtain⟨h',a,b⟩:=q (by omega) (by omega) m (by omega) fr h hf r
   obtain⟨fr2,h2',c,d,e⟩:=q' (by omega) (by omega) m (by omega) (ze1 o.dst v fr) h' (hf.putN d2 v) b
   refine⟨fr2,h2',?_,d,e⟩
   show(zk5 P n all o (zwH P n all l)).f (zbZ P nat m) fr h=_
   unfold zk5
   cases hg:o.guard with
   |none =>
    show rvk ((zbY P o.op).f _ fr h) _ _=_
    rw[a]
    show(zds n o.dst).f v fr _=_
    rw[zeh d1];exact c
   |some g =>
    show ifB ((zcp all (some g)).f fr) _ _=_
    rw[←hg,znz hf,hw,zac]
    show rvk ((zbY P o.op).f _ fr h) _ _=_
    rw[a]
    show(zds n o.dst).f v fr _=_
    rw[zeh d1];exact c
  ·rename_i hw
   obtain⟨φ',η',hk,k1,q'⟩:=zhA hn all l K _ _ okl w
   refine⟨φ',η',hk,k1,fun h1 h2 m hm fr h hf r=>?_⟩
   obtain⟨fr2,h2',c,d,e⟩:=q' h1 h2 m hm (ze1 o.dst und fr) h (hf.putN d2 und) r
   refine⟨fr2,h2',?_,d,e⟩
   show(zk5 P n all o (zwH P n all l)).f (zbZ P nat m) fr h=_
   unfold zk5
   cases hg:o.guard with
   |none=>rw[hg]at hw;cases hw
   |some g =>
    show ifB ((zcp all (some g)).f fr) _ _=_
    rw[←hg,znz hf,hw,zah,zeh d1];exact c
end
end Go.Eng
namespace Go.Eng
set_option autoImplicit false
section
mutual
theorem ziJ:∀a:AV,zmo a a=true
 |.bool b=>by show zpH b b=true;cases b<;>rfl
 |.int k n=>by show zbQ (keq k k) (Nat.beq n n)=true;rw[(za1 k k).2 rfl,Nat.beq_refl];rfl
 |.str n v=>by show zbQ (Nat.beq n n) (Nat.beq v v)=true;rw[Nat.beq_refl,Nat.beq_refl];rfl
 |.nilptr=>rfl
 |.ptr b o=>by show zbQ (Nat.beq b b) (Nat.beq o o)=true;rw[Nat.beq_refl,Nat.beq_refl];rfl
 |.nilslice=>rfl
 |.slice b o l c=>by
  show zbQ (Nat.beq b b) (zbQ (Nat.beq o o) (zbQ (Nat.beq l l) (cpEq c c)))=true
  rw[Nat.beq_refl,Nat.beq_refl,Nat.beq_refl]
  cases c with
  |kn c=>show Nat.beq c c=true;exact Nat.beq_refl c
  |un c=>show Nat.beq c c=true;exact Nat.beq_refl c
 |.func f a b=>by
  show zbQ (Nat.beq f f) (zbQ (zmo (.agg a) (.agg a)) (zmo (.agg b) (.agg b)))=true
  rw[Nat.beq_refl,zd9 a,zd9 b];rfl
 |.nilFunc=>rfl
 |.iface t v=>by show zbQ (Nat.beq t t) (zmo v v)=true;rw[Nat.beq_refl,ziJ v];rfl
 |.nilIface=>rfl
 |.agg l=>zd9 l
 |.tup l=>zd9 l
 |.map b=>by show Nat.beq b b=true;exact Nat.beq_refl b
 |.nilmap=>rfl
 |.rng k a b=>by show zbQ (keq k k) (zbQ (Nat.beq a a) (Nat.beq b b))=true;rw[(za1 k k).2 rfl,Nat.beq_refl,Nat.beq_refl];rfl
 |.sym k e=>by
  show zbQ (keq k k) (ziR e e)=true
  rw[(za1 k k).2 rfl,zdi e];rfl
theorem zd9:∀l:List AV,zmo (.agg l) (.agg l)=true
 | []=>rfl
 |a::l=>by
  show zbQ (zmo a a) (zmo (.agg l) (.agg l))=true
  rw[ziJ a,zd9 l];rfl
theorem zdi:∀e:SE,ziR e e=true
 |.v i=>Nat.beq_refl i
 |.c i=>Nat.beq_refl i
 |.op o k x y=>by
  show zbQ (Nat.beq (soN o) (soN o)) (zbQ (keq k k) (zbQ (ziR x x) (ziR y y)))=true
  rw[Nat.beq_refl,(za1 k k).2 rfl,zdi x,zdi y];rfl
 |.cv k l x=>by
  show zbQ (keq k k) (zbQ (keq l l) (ziR x x))=true
  rw[(za1 k k).2 rfl,(za1 l l).2 rfl,zdi x];rfl
 |.pr x y=>by show zbQ (ziR x x) (ziR y y)=true;rw[zdi x,zdi y];rfl
 |.app i x=>by show zbQ (Nat.beq i i) (ziR x x)=true;rw[Nat.beq_refl,zdi x];rfl
end
end
section
variable {P:Program} {nat:∀ [Deep],Nats} {PT:Plans} {n:Nat}
def zvx [Deep]:List H→List HN→Prop
 | [],[]=>True
 |h::hs,η::ηs=>Rep h η∧zvx hs ηs
 |_,_=>False
structure RecR [Deep] (P:Program) (r:Rec) (s:RecN):Prop where
 e:r.e=zbY P s.op
 fr:FrR r.fr s.φ
 v:r.v=s.v
 lo:r.lo=s.lo
 hi:r.hi=s.hi
 good:lall (ze0 P) s.op.operands.toList=true
def RecL [Deep] (P:Program):List Rec→List RecN→Prop
 | [],[]=>True
 |r::rs,s::ss=>RecR P r s∧RecL P rs ss
 |_,_=>False
theorem zvx.len [Deep]:∀{hs:List H} {ηs:List HN},zvx hs ηs→llen hs=ηs.length
 | [],[],_=>rfl
 |_::hs,_::ηs,r=>congrArg Nat.succ (zvx.len r.2)
 | [],_::_,r=>r.elim
 |_::_,[],r=>r.elim
theorem zjh {s:RecN}:∀{ηs:List HN} {k:Nat},zfF P s ηs k→∃k0,∀ [Deep],k0≤Deep.d→∀(call:Caller) (hs:List H) (r:Rec),zvx hs ηs→RecR P r s→zcJ call r hs k=true
 | [],k,_=>⟨0,fun _ call hs r q _=>by
   cases hs with
   |nil=>rfl
   |cons _ _=>exact q.elim⟩
 |η::ηs,k,w=>by
  obtain⟨w1,w2⟩:=w
  obtain⟨k1,q1⟩:=zjh w2
  by_cases hc:s.lo≤k∧k≤s.hi
  ·have w1:=w1 hc.1 hc.2
   unfold okV at w1
   split at w1
   ·rename_i v η' hr
    subst w1
    obtain⟨k2,q2⟩:=zqN hr
    refine⟨max k1 k2,fun hd call hs r q hrec=>?_⟩
    cases hs with
    |nil=>exact q.elim
    |cons h hs =>
     show ifB (zbQ (Nat.ble r.lo k) (Nat.ble k r.hi)) (zbQ (sameAt call r h) (zcJ call r hs (k-1))) (zcJ call r hs (k-1))=true
     rw[hrec.lo,hrec.hi,zad.2 hc.1,zad.2 hc.2,q1 (by omega) call hs r q.2 hrec]
     show zbQ (sameAt call r h) true=true
     obtain⟨h',a,_⟩:=q2 (by omega) call r.fr h hrec.fr q.1
     have:sameAt call r h=true:=by
      unfold sameAt
      rw[hrec.e]
      unfold zbY
      rw[hrec.good,zac,a]
      show zmo s.v r.v=true
      rw[hrec.v];exact ziJ _
     rw[this];rfl
   ·exact w1.elim
  ·refine⟨k1,fun hd call hs r q hrec=>?_⟩
   cases hs with
   |nil=>exact q.elim
   |cons h hs =>
    show ifB (zbQ (Nat.ble r.lo k) (Nat.ble k r.hi)) (zbQ (sameAt call r h) (zcJ call r hs (k-1))) (zcJ call r hs (k-1))=true
    have:zbQ (Nat.ble r.lo k) (Nat.ble k r.hi)=false:=by
     rw[hrec.lo,hrec.hi]
     cases h1:Nat.ble s.lo k<;>cases h2:Nat.ble k s.hi<;>first|rfl|exact absurd ⟨zad.1 h1,zad.1 h2⟩ hc
    rw[this,zah]
    exact q1 hd call hs r q.2 hrec
theorem znN:∀{ss:List RecN} {ηs:List HN} {k:Nat},zmy P ηs k ss→∃k0,∀ [Deep],k0≤Deep.d→∀(call:Caller) (hs:List H) (rs:List Rec),zvx hs ηs→RecL P rs ss→sameAll call hs k rs=true
 | [],ηs,k,_=>⟨0,fun _ call hs rs _ q=>by
   cases rs with
   |nil=>rfl
   |cons _ _=>exact q.elim⟩
 |s::ss,ηs,k,w=>by
  obtain⟨k1,q1⟩:=zjh w.1
  obtain⟨k2,q2⟩:=znN w.2
  refine⟨max k1 k2,fun hd call hs rs q1' q2'=>?_⟩
  cases rs with
  |nil=>exact q2'.elim
  |cons r rs =>
   show zbQ (zcJ call r hs k) (sameAll call hs k rs)=true
   rw[q1 (by omega) call hs r q1' q2'.1,q2 (by omega) call hs rs q1' q2'.2];rfl
theorem zrZ {a b:DK} (h:dkEq a b=true):a=b:=by
 unfold dkEq at h
 split at h<;>first|rfl|skip
 ·obtain⟨h1,h2⟩:=Bool.and_eq_true_iff.1 h
  rw[zai.1 h1,zai.1 h2]
 ·cases h
theorem Rep.at_ [Deep] {h:H} {η:HN} (r:Rep h η) {k:Nat}:Rep ⟨k,h.m⟩ (η.at_ k):=⟨rfl,r.blk⟩
theorem zj7 {op:Op} {φ:FN} {η η':HN} {v:AV} (hg:lall (ze0 P) op.operands.toList=true) (e:opR P op φ η=.ok v η') :
  ∃k0,∀ [Deep],k0≤Deep.d→∀call fr h,FrR fr φ→Rep h η→∃h',(zbY P op).f call fr h=.val v h'∧Rep h' η':=by
 have he:∀ [Deep],zbY P op=zt2 P op:=by intro _;unfold zbY;rw[hg];rfl
 obtain⟨k0,q⟩:=zqN e
 exact⟨k0,fun hd call fr h hf r=>by rw[he];exact q hd call fr h hf r⟩
theorem znH [Deep] {all:List Oper} {bs:List Nat} {j:Nat} {o:Oper} {k:D}:zf1 P n all bs j o k=(match o.guard with|none=>id|some g=>fun a=>zvk (zcp all (some g)) a (dNot (zds n o.dst) (zc9 (cls P o.op) .eff) k))
  (match cls P o.op with
   |.alloc=>zon (zbY P o.op) (zds n o.dst) j k
   |.eff=>dEff (zbY P o.op) (zds n o.dst) k
   |.read=>ifB (calm P all bs j) (zl4 (zbY P o.op) (zds n o.dst) k) (zuc (zbY P o.op) (zds n o.dst) (zep P all bs j) (ze2 P all bs j) k)
   |.pure=>zl4 (zbY P o.op) (zds n o.dst) k):=by
 unfold zf1
 cases o.guard<;>rfl
theorem zdX [Deep] {all:List Oper} {bs:List Nat} {j:Nat} {o:Oper} {k:D} {call:Caller} {nx0:Nat} {fr:Fr} {φ:FN} {h:H} {hs:List H} {rs:List Rec} (hf:FrR fr φ) (hw:zeC all o.guard φ=true) :
  (zf1 P n all bs j o k).f call nx0 fr h hs rs=(match cls P o.op with
   |.alloc=>zon (zbY P o.op) (zds n o.dst) j k
   |.eff=>dEff (zbY P o.op) (zds n o.dst) k
   |.read=>ifB (calm P all bs j) (zl4 (zbY P o.op) (zds n o.dst) k) (zuc (zbY P o.op) (zds n o.dst) (zep P all bs j) (ze2 P all bs j) k)
   |.pure=>zl4 (zbY P o.op) (zds n o.dst) k).f call nx0 fr h hs rs:=by
 rw[znH]
 cases hg:o.guard with
 |none=>rfl
 |some g =>
  show ifB ((zcp all (some g)).f fr) _ _=_
  rw[znz hf,←hg,hw];rfl
theorem zp9 [Deep] {all:List Oper} {bs:List Nat} {j:Nat} {o:Oper} {k:D} {call:Caller} {nx0:Nat} {fr:Fr} {φ:FN} {h:H} {hs:List H} {rs:List Rec} (hf:FrR fr φ) (hw:zeC all o.guard φ=false) :
  (zf1 P n all bs j o k).f call nx0 fr h hs rs=(dNot (zds n o.dst) (zc9 (cls P o.op) .eff) k).f call nx0 fr h hs rs:=by
 rw[znH]
 cases hg:o.guard with
 |none=>rw[hg]at hw;cases hw
 |some g =>
  show ifB ((zcp all (some g)).f fr) _ _=_
  rw[znz hf,←hg,hw];rfl
def RunD (P:Program) (nat:∀ [Deep],Nats) (n:Nat) (all:List Oper) (bs:List Nat) (nx0:Nat) (l:List Oper) (j:Nat) (φ:FN) (η:HN) (ηs:List HN) (ss:List RecN) (φ':FN) (η':HN):Prop :=
 ∃k0,∀ [Deep],k0≤Deep.d→k0≤Deep.loops→∀m,k0≤m→∀fr h hs rs,FrR fr φ→Rep h η→zvx hs ηs→RecL P rs ss→∃fr' h',(zoX P n all bs l j).f (zbZ P nat m) nx0 fr h hs rs=.ok .normal fr' h'∧FrR fr' φ'∧Rep h' η'
theorem ziw (hn:n≤512) (all:List Oper) (bs:List Nat) (K:FN→HN→Prop) (nx0:Nat):∀(l:List Oper) (plan:List DK) (j:Nat) (φ:FN) (η:HN) (ηs:List HN) (ss:List RecN),lall (zg3 P n) l=true→zg2 P all bs plan l j=true →
  zbg P (zaE P nat) all K nx0 plan l j φ η ηs ss→∃φ' η',K φ' η'∧RunD P nat n all bs nx0 l j φ η ηs ss φ' η'
 | [],[],j,φ,η,ηs,ss,_,_,w=>by
  unfold zbg at w
  obtain⟨w1,w2⟩:=w
  obtain⟨k0,q⟩:=znN w1
  refine⟨φ,η,w2,k0,fun h1 h2 m hm fr h hs rs hf r r1 r2=>⟨fr,h,?_,hf,r⟩⟩
  show ifB (sameAll (zbZ P nat m) hs (Nat.sub (llen hs) 1) rs) (R.ok .normal fr h) (.fail 85)=_
  rw[r1.len,show Nat.sub ηs.length 1=ηs.length-1 from rfl,q h1 _ hs rs r1 r2];rfl
 | [],_::_,_,_,_,_,_,_,_,w=>by unfold zbg at w;exact w.elim
 |_::_,[],_,_,_,_,_,_,_,w=>by unfold zbg at w;exact w.elim
 |o::l,k::plan,j,φ,η,ηs,ss,ok,pk,w=>by
  have ok':=(zn7 _ _).1 ok
  obtain⟨g1,g2⟩:=Bool.and_eq_true_iff.1 (ok' o (by simp))
  obtain⟨d1,d2⟩:=zvj g2 hn
  have okl:lall (zg3 P n) l=true:=(zn7 _ _).2 fun x hx=>ok' x (List.mem_cons_of_mem _ hx)
  obtain⟨p1,p2⟩:=Bool.and_eq_true_iff.1 (show(dkEq k (zrY P all bs j o)&&zg2 P all bs plan l (j+1))=true from pk)
  have p1:=zrZ p1
  unfold zbg at w
  split at w
  ·rename_i hw
   -- what follows the operation
   have go:∀{v:AV} {η1:HN} {ηs':List HN} {ss':List RecN} {φ1:FN},zbg P (zaE P nat) all K nx0 plan l (j+1) φ1 η1 ηs' ss'→∃φ' η',K φ' η'∧RunD P nat n all bs nx0 l (j+1) φ1 η1 ηs' ss' φ' η':=fun w=>ziw hn all bs K nx0 l plan (j+1) _ _ _ _ okl p2 w
   cases hc:cls P o.op with
   |alloc =>
    have hk:k=.alloc:=by rw[p1];unfold zrY;rw[hc]
    subst hk
    dsimp only at w
    split at w
    ·rename_i v η1 hr
     obtain⟨k0,q⟩:=zj7 g1 hr
     obtain⟨φ',η',hK,k1,q'⟩:=go (v:=v) w
     refine⟨φ',η',hK,max k0 k1,fun h1 h2 m hm fr h hs rs hf r r1 r2=>?_⟩
     obtain⟨h',a,b⟩:=q (by omega) (zbZ P nat m) fr ⟨nx0+j,h.m⟩ hf r.at_
     have b':Rep ⟨h.nx,h'.m⟩ (η1.at_ η.nx):=by rw[r.nx];exact b.at_
     obtain⟨fr2,h2',c,d,e⟩:=q' (by omega) (by omega) m (by omega) (ze1 o.dst v fr) ⟨h.nx,h'.m⟩ hs rs (hf.putN d2 v) b' r1 r2
     refine⟨fr2,h2',?_,d,e⟩
     show(zf1 P n all bs j o (zoX P n all bs l (j+1))).f (zbZ P nat m) nx0 fr h hs rs=_
     rw[zdX hf hw,hc]
     show rvk ((zbY P o.op).f (zbZ P nat m) fr ⟨nx0+j,h.m⟩) _ _=_
     rw[a]
     show(zds n o.dst).f v fr _=_
     rw[zeh d1];exact c
    ·exact w.elim
   |eff =>
    have hk:k=.eff:=by rw[p1];unfold zrY;rw[hc]
    subst hk
    dsimp only at w
    obtain⟨v,η1,w,k0,q⟩:=zuV (k:=fun φ' η'=>zbg P (zaE P nat) all K nx0 plan l (j+1) φ' η' (η'::ηs) ss) g1 w
    obtain⟨φ',η',hK,k1,q'⟩:=go (v:=v) w
    refine⟨φ',η',hK,max k0 k1,fun h1 h2 m hm fr h hs rs hf r r1 r2=>?_⟩
    obtain⟨h',a,b⟩:=q (by omega) (by omega) m (by omega) fr h hf r
    obtain⟨fr2,h2',c,d,e⟩:=q' (by omega) (by omega) m (by omega) (ze1 o.dst v fr) h' (h'::hs) rs (hf.putN d2 v) b ⟨b,r1⟩ r2
    refine⟨fr2,h2',?_,d,e⟩
    show(zf1 P n all bs j o (zoX P n all bs l (j+1))).f (zbZ P nat m) nx0 fr h hs rs=_
    rw[zdX hf hw,hc]
    show rvk ((zbY P o.op).f (zbZ P nat m) fr h) _ _=_
    rw[a]
    show(zds n o.dst).f v fr _=_
    rw[zeh d1];exact c
   |pure =>
    have hk:k=.pure:=by rw[p1];unfold zrY;rw[hc]
    subst hk
    dsimp only at w
    split at w
    ·rename_i v η1 hr
     obtain⟨k0,q⟩:=zj7 g1 hr
     obtain⟨φ',η',hK,k1,q'⟩:=go (v:=v) w
     refine⟨φ',η',hK,max k0 k1,fun h1 h2 m hm fr h hs rs hf r r1 r2=>?_⟩
     obtain⟨h',a,b⟩:=q (by omega) (zbZ P nat m) fr h hf r
     obtain⟨fr2,h2',c,d,e⟩:=q' (by omega) (by omega) m (by omega) (ze1 o.dst v fr) h' hs rs (hf.putN d2 v) b r1 r2
     refine⟨fr2,h2',?_,d,e⟩
     show(zf1 P n all bs j o (zoX P n all bs l (j+1))).f (zbZ P nat m) nx0 fr h hs rs=_
     rw[zdX hf hw,hc]
     show rvk ((zbY P o.op).f (zbZ P nat m) fr h) _ _=_
     rw[a]
     show(zds n o.dst).f v fr _=_
     rw[zeh d1];exact c
    ·exact w.elim
   |read =>
    cases hcalm:calm P all bs j with
    |true =>
     have hk:k=.pure:=by rw[p1];unfold zrY;rw[hc];dsimp only;rw[hcalm];rfl
     subst hk
     dsimp only at w
     split at w
     ·rename_i v η1 hr
      obtain⟨k0,q⟩:=zj7 g1 hr
      obtain⟨φ',η',hK,k1,q'⟩:=go (v:=v) w
      refine⟨φ',η',hK,max k0 k1,fun h1 h2 m hm fr h hs rs hf r r1 r2=>?_⟩
      obtain⟨h',a,b⟩:=q (by omega) (zbZ P nat m) fr h hf r
      obtain⟨fr2,h2',c,d,e⟩:=q' (by omega) (by omega) m (by omega) (ze1 o.dst v fr) h' hs rs (hf.putN d2 v) b r1 r2
      refine⟨fr2,h2',?_,d,e⟩
      show(zf1 P n all bs j o (zoX P n all bs l (j+1))).f (zbZ P nat m) nx0 fr h hs rs=_
      rw[zdX hf hw,hc]
      dsimp only
      rw[hcalm,zac]
      show rvk ((zbY P o.op).f (zbZ P nat m) fr h) _ _=_
      rw[a]
      show(zds n o.dst).f v fr _=_
      rw[zeh d1];exact c
     ·exact w.elim
    |false =>
     have hk:k=.read (zep P all bs j) (ze2 P all bs j):=by rw[p1];unfold zrY;rw[hc];dsimp only;rw[hcalm];rfl
     subst hk
     dsimp only at w
     split at w
     ·rename_i v η1 hr
      obtain⟨k0,q⟩:=zj7 g1 hr
      obtain⟨φ',η',hK,k1,q'⟩:=go (v:=v) w
      refine⟨φ',η',hK,max k0 k1,fun h1 h2 m hm fr h hs rs hf r r1 r2=>?_⟩
      obtain⟨h',a,b⟩:=q (by omega) (zbZ P nat m) fr h hf r
      obtain⟨fr2,h2',c,d,e⟩:=q' (by omega) (by omega) m (by omega) (ze1 o.dst v fr) h' hs (⟨zbY P o.op,fr,v,zep P all bs j,ze2 P all bs j⟩::rs) (hf.putN d2 v) b r1 ⟨⟨rfl,hf,rfl,rfl,rfl,g1⟩,r2⟩
      refine⟨fr2,h2',?_,d,e⟩
      show(zf1 P n all bs j o (zoX P n all bs l (j+1))).f (zbZ P nat m) nx0 fr h hs rs=_
      rw[zdX hf hw,hc]
      dsimp only
      rw[hcalm,zah]
      show rvk ((zbY P o.op).f (zbZ P nat m) fr h) _ _=_
      rw[a]
      show(zds n o.dst).f v fr _=_
      rw[zeh d1];exact c
     ·exact w.elim
  ·rename_i hw
   obtain⟨φ',η',hK,k1,q'⟩:=ziw hn all bs K nx0 l plan (j+1) _ _ _ _ okl p2 w
   refine⟨φ',η',hK,k1,fun h1 h2 m hm fr h hs rs hf r r1 r2=>?_⟩
   have hhs:zvx (ifB (zc9 (cls P o.op) .eff) (h::hs) hs) (zvh k η ηs):=by
    have e:zvh k η ηs=zvh (zrY P all bs j o) η ηs:=by rw[←p1]
    rw[e]
    unfold zrY
    cases hc:cls P o.op with
    |alloc=>exact r1
    |eff=>exact⟨r,r1⟩
    |pure=>exact r1
    |read=>dsimp only;cases calm P all bs j<;>exact r1
   obtain⟨fr2,h2',c,d,e⟩:=q' h1 h2 m hm (ze1 o.dst und fr) h _ rs (hf.putN d2 und) r hhs r2
   refine⟨fr2,h2',?_,d,e⟩
   show(zf1 P n all bs j o (zoX P n all bs l (j+1))).f (zbZ P nat m) nx0 fr h hs rs=_
   rw[zp9 hf hw]
   show(zds n o.dst).f und fr _=_
   rw[zeh d1];exact c
theorem zox {all:List Oper} {bs:List Nat}:∀{l:List Oper} {plan:List DK} {j:Nat},zg2 P all bs plan l j=true→zft plan=l.any fun o=>zc9 (cls P o.op) .alloc
 | [],[],_,_=>rfl
 | [],_::_,_,h=>by cases h
 |_::_,[],_,h=>by cases h
 |o::l,k::plan,j,h=>by
  obtain⟨p1,p2⟩:=Bool.and_eq_true_iff.1 (show(dkEq k (zrY P all bs j o)&&zg2 P all bs plan l (j+1))=true from h)
  have ih:=zox p2
  rw[zrZ p1,List.any_cons,←ih]
  unfold zrY
  cases hc:cls P o.op with
  |alloc=>rfl
  |eff=>rfl
  |pure=>rfl
  |read=>dsimp only;cases calm P all bs j<;>rfl
theorem zqa (hn:n≤512) {id:Nat} {ops:Array Oper} {K:FN→HN→Prop} {φ:FN} {η:HN} {plan:List DK} (ok:lall (zg3 P n) ops.toList=true) (pk:zg2 P ops.toList (befs ops.toList) plan ops.toList 0=true)
  (w:zjd P (zaE P nat) plan ops.toList K φ η):∃φ' η',K φ' η'∧RunC P nat (zw2 P n ops.toList) φ η .normal φ' η':=by
 unfold zjd at w
 obtain⟨φ',η',hK,k0,q⟩:=ziw hn ops.toList (befs ops.toList) K η.nx ops.toList plan 0 φ _ _ _ ok pk w
 refine⟨φ',η',hK,k0,fun h1 h2 m hm fr h hf r=>?_⟩
 have hnx:Nat.add h.nx (zpQ P ops.toList)=if zft plan then η.nx+ops.toList.length else η.nx:=by
  unfold zpQ
  rw[zox pk,r.nx,zbS]
  cases (ops.toList.any fun o=>zc9 (cls P o.op) .alloc)<;>rfl
 have r':Rep ⟨Nat.add h.nx (zpQ P ops.toList),h.m⟩ (η.at_ (if zft plan then η.nx+ops.toList.length else η.nx)):=by rw[hnx];exact r.at_
 obtain⟨fr',h',a,b,c⟩:=q h1 h2 m hm fr _ [_] [] hf r' ⟨r',trivial⟩ trivial
 refine⟨fr',h',?_,b,c⟩
 show forceN (Nat.add h.nx (zpQ P ops.toList)) _=_
 rw[zak]
 show(zoX P n ops.toList (befs ops.toList) ops.toList 0).f (zbZ P nat m) h.nx fr _ _ _=_
 rw[r.nx]at a ⊢
 exact a
theorem zfC (hn:n≤512):∀(c:Code) (K:Kont) (φ:FN) (η:HN),okC P n PT c=true→wpN P (zaE P nat) PT c K φ η→∃e φ' η',K e φ' η'∧RunC P nat (evC P n c) φ η e φ' η'
 |.skip,K,φ,η,_,w=>⟨.normal,φ,η,w,0,fun _ _ m _ fr h hf r=>⟨fr,h,rfl,hf,r⟩⟩
 |.exit i,K,φ,η,_,w=>⟨.exit i,φ,η,w,0,fun _ _ m _ fr h hf r=>⟨fr,h,rfl,hf,r⟩⟩
 |.ret,K,φ,η,_,w=>⟨.ret,φ,η,w,0,fun _ _ m _ fr h hf r=>⟨fr,h,rfl,hf,r⟩⟩
 |.rangeFunc _ _ _ _,_,_,_,_,w=>w.elim
 |.scope _,_,_,_,_,w=>w.elim
 |.label _,_,_,_,_,w=>w.elim
 |.goto _,_,_,_,_,w=>w.elim
 |.refuse _,_,_,_,_,w=>w.elim
 |.region id ops false,K,φ,η,ok,w=>by
  obtain⟨o1,_⟩:=Bool.and_eq_true_iff.1 (show(lall (zg3 P n) ops.toList&&true)=true from ok)
  obtain⟨φ',η',hK,q⟩:=zhA hn ops.toList ops.toList (K .normal) φ η o1 w
  exact⟨.normal,φ',η',hK,q⟩
 |.region id ops true,K,φ,η,ok,w=>by
  obtain⟨o1,o2⟩:=Bool.and_eq_true_iff.1 (show(lall (zg3 P n) ops.toList&&zg2 P ops.toList (befs ops.toList) (PT id) ops.toList 0)=true from ok)
  obtain⟨φ',η',hK,q⟩:=zqa (id:=id) hn o1 o2 w
  exact⟨.normal,φ',η',hK,q⟩
 |.seq a b,K,φ,η,ok,w=>by
  obtain⟨o1,o2⟩:=Bool.and_eq_true_iff.1 (show(okC P n PT a&&okC P n PT b)=true from ok)
  obtain⟨e,φ1,η1,w,k0,q⟩:=zfC hn a _ φ η o1 w
  cases e with
  |normal =>
   obtain⟨e,φ',η',hK,k1,q'⟩:=zfC hn b K φ1 η1 o2 w
   refine⟨e,φ',η',hK,max k0 k1,fun h1 h2 m hm fr h hf r=>?_⟩
   obtain⟨fr1,h',a1,a2,a3⟩:=q (by omega) (by omega) m (by omega) fr h hf r
   obtain⟨fr2,h2',b1,b2,b3⟩:=q' (by omega) (by omega) m (by omega) fr1 h' a2 a3
   refine⟨fr2,h2',?_,b2,b3⟩
   show Rk ((evC P n a).f _ fr h) _=_
   rw[a1];exact b1
  |exit i =>
   refine⟨.exit i,φ1,η1,w,k0,fun h1 h2 m hm fr h hf r=>?_⟩
   obtain⟨fr1,h',a1,a2,a3⟩:=q h1 h2 m hm fr h hf r
   refine⟨fr1,h',?_,a2,a3⟩
   show Rk ((evC P n a).f _ fr h) _=_
   rw[a1];rfl
  |ret =>
   refine⟨.ret,φ1,η1,w,k0,fun h1 h2 m hm fr h hf r=>?_⟩
   obtain⟨fr1,h',a1,a2,a3⟩:=q h1 h2 m hm fr h hf r
   refine⟨fr1,h',?_,a2,a3⟩
   show Rk ((evC P n a).f _ fr h) _=_
   rw[a1];rfl
 |.cond c a b,K,φ,η,ok,w=>by
  obtain⟨o0,ok⟩:=Bool.and_eq_true_iff.1 (show(zvn c&&(okC P n PT a&&okC P n PT b))=true from ok)
  obtain⟨o1,o2⟩:=Bool.and_eq_true_iff.1 ok
  have w:zkC (opd φ c) (wpN P (zaE P nat) PT a K) (wpN P (zaE P nat) PT b K) φ η:=w
  unfold zkC at w
  split at w
  ·rename_i hc
   obtain⟨e,φ',η',hK,k0,q⟩:=zfC hn a K φ η o1 w
   refine⟨e,φ',η',hK,k0,fun h1 h2 m hm fr h hf r=>?_⟩
   obtain⟨fr1,h',a1,a2,a3⟩:=q h1 h2 m hm fr h hf r
   refine⟨fr1,h',?_,a2,a3⟩
   show(zrp c (evC P n a) (evC P n b)).f _ fr h=_
   cases c with
   |tmp t =>
    show asBool (slot fr t) _ _=_
    rw[hf t,show φ t=.bool true from hc];exact a1
   |const v =>
    cases v<;>first|(cases o0;done)|skip
    rename_i b0
    cases b0<;>first|exact a1|cases (show AV.bool false=.bool true from hc)
   |global g=>cases (show AV.ptr g 0=.bool true from hc)
   |func f=>cases (show AV.func f [] []=.bool true from hc)
  ·rename_i hc
   obtain⟨e,φ',η',hK,k0,q⟩:=zfC hn b K φ η o2 w
   refine⟨e,φ',η',hK,k0,fun h1 h2 m hm fr h hf r=>?_⟩
   obtain⟨fr1,h',a1,a2,a3⟩:=q h1 h2 m hm fr h hf r
   refine⟨fr1,h',?_,a2,a3⟩
   show(zrp c (evC P n a) (evC P n b)).f _ fr h=_
   cases c with
   |tmp t =>
    show asBool (slot fr t) _ _=_
    rw[hf t,show φ t=.bool false from hc];exact a1
   |const v =>
    cases v<;>first|(cases o0;done)|skip
    rename_i b0
    cases b0<;>first|exact a1|cases (show AV.bool true=.bool false from hc)
   |global g=>cases (show AV.ptr g 0=.bool false from hc)
   |func f=>cases (show AV.func f [] []=.bool false from hc)
  ·exact w.elim
 |.block i b,K,φ,η,ok,w=>by
  obtain⟨e,φ1,η1,w,k0,q⟩:=zfC hn b _ φ η ok w
  cases e with
  |normal =>
   refine⟨.normal,φ1,η1,w,k0,fun h1 h2 m hm fr h hf r=>?_⟩
   obtain⟨fr1,h',a1,a2,a3⟩:=q h1 h2 m hm fr h hf r
   refine⟨fr1,h',?_,a2,a3⟩
   show Rk ((evC P n b).f _ fr h) _=_
   rw[a1];rfl
  |ret =>
   refine⟨.ret,φ1,η1,w,k0,fun h1 h2 m hm fr h hf r=>?_⟩
   obtain⟨fr1,h',a1,a2,a3⟩:=q h1 h2 m hm fr h hf r
   refine⟨fr1,h',?_,a2,a3⟩
   show Rk ((evC P n b).f _ fr h) _=_
   rw[a1];rfl
  |exit j =>
   have w:(if j=i then K .normal φ1 η1 else K (.exit j) φ1 η1):=w
   by_cases hj:j=i
   ·rw[if_pos hj]at w
    refine⟨.normal,φ1,η1,w,k0,fun h1 h2 m hm fr h hf r=>?_⟩
    obtain⟨fr1,h',a1,a2,a3⟩:=q h1 h2 m hm fr h hf r
    refine⟨fr1,h',?_,a2,a3⟩
    show Rk ((evC P n b).f _ fr h) _=_
    rw[a1]
    show ifB (Nat.beq j i) _ _=_
    rw[zai.2 hj];rfl
   ·rw[if_neg hj]at w
    refine⟨.exit j,φ1,η1,w,k0,fun h1 h2 m hm fr h hf r=>?_⟩
    obtain⟨fr1,h',a1,a2,a3⟩:=q h1 h2 m hm fr h hf r
    refine⟨fr1,h',?_,a2,a3⟩
    show Rk ((evC P n b).f _ fr h) _=_
    rw[a1]
    show ifB (Nat.beq j i) _ _=_
    rw[zav.2 hj];rfl
 |.loop b,K,φ,η,ok,w=>by
  obtain⟨cnt,w⟩:=w
  have key:∀(cnt:Nat) (φ:FN) (η:HN),zo6 (wpN P (zaE P nat) PT b) cnt K φ η→∃e φ' η',K e φ' η'∧∃k0,∀ [Deep],k0≤Deep.d→k0≤Deep.loops→∀m,k0≤m→∀q,cnt≤q→∀fr h,FrR fr φ→Rep h η→∃fr' h',zo8 (evC P n b) q (zbZ P nat m) fr h=.ok e fr' h'∧FrR fr' φ'∧Rep h' η':=by
   intro cnt
   induction cnt with
   |zero=>intro φ η w;exact w.elim
   |succ cnt ih =>
    intro φ η w
    obtain⟨e,φ1,η1,w,k0,q⟩:=zfC hn b _ φ η ok w
    cases e with
    |normal =>
     obtain⟨e,φ',η',hK,k1,q'⟩:=ih φ1 η1 w
     refine⟨e,φ',η',hK,max k0 k1,fun h1 h2 m hm c hc fr h hf r=>?_⟩
     obtain⟨c,rfl⟩:∃c',c=c'+1:=⟨c-1,by omega⟩
     obtain⟨fr1,h',a1,a2,a3⟩:=q (by omega) (by omega) m (by omega) fr h hf r
     obtain⟨fr2,h2',b1,b2,b3⟩:=q' (by omega) (by omega) m (by omega) c (by omega) fr1 h' a2 a3
     refine⟨fr2,h2',?_,b2,b3⟩
     show Rk ((evC P n b).f _ fr h) _=_
     rw[a1];exact b1
    |exit i =>
     refine⟨.exit i,φ1,η1,w,k0,fun h1 h2 m hm c hc fr h hf r=>?_⟩
     obtain⟨c,rfl⟩:∃c',c=c'+1:=⟨c-1,by omega⟩
     obtain⟨fr1,h',a1,a2,a3⟩:=q h1 h2 m hm fr h hf r
     refine⟨fr1,h',?_,a2,a3⟩
     show Rk ((evC P n b).f _ fr h) _=_
     rw[a1];rfl
    |ret =>
     refine⟨.ret,φ1,η1,w,k0,fun h1 h2 m hm c hc fr h hf r=>?_⟩
     obtain⟨c,rfl⟩:∃c',c=c'+1:=⟨c-1,by omega⟩
     obtain⟨fr1,h',a1,a2,a3⟩:=q h1 h2 m hm fr h hf r
     refine⟨fr1,h',?_,a2,a3⟩
     show Rk ((evC P n b).f _ fr h) _=_
     rw[a1];rfl
  obtain⟨e,φ',η',hK,k0,q⟩:=key cnt φ η w
  refine⟨e,φ',η',hK,max k0 cnt,fun h1 h2 m hm fr h hf r=>?_⟩
  exact q (by omega) (by omega) m (by omega) Deep.loops (by omega) fr h hf r
end
end Go.Eng
