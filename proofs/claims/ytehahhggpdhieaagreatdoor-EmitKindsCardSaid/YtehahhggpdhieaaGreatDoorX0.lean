/- Lemmas of the walk of EmitKinds are proved. Conditions: none. -/
import GoSem.Dispatch
import GoSem.Machine.Return
import Derived.Orders
import Derived.Laws.Sem
namespace Go.Proofs.YtehahhggpdhieaaGreatDoor
set_option maxRecDepth 100000
set_option maxHeartbeats 32000000
set_option linter.all false
section
def Y{q:Prop}(e:q:=by omega):q:=e
def A{q:Prop}(e:q:=by assumption):q:=e
def J{q:Prop}(e:q:=by grind):q:=e
inductive NT(a:Type)|k
def N{a:Type}:NT a:=.k
instance{a:Type}:CoeFun (NT a) λ_=>List a->Nat:=⟨λ_=>List.length⟩
theorem R{a:Sort _}{x:a}:x=x:=rfl
inductive LT'|k
def L:LT':=.k
instance:CoeFun LT' λ_=>Type->Type:=⟨λ_=>List⟩
inductive DT|k
def de:DT:=.k
instance:CoeFun DT λ_=>(p:Prop)->[Decidable p]->Bool:=⟨λ_=>@decide⟩
theorem dy{q:Prop}(e:q:=by and_intros<;>rfl):q:=e
theorem dc{q:Prop}(e:q:=by decide):q:=e
theorem dp{q:Prop}(e:q:=by simp):q:=e
theorem om{p q:Prop}(h:p)(e:p->q:=by intro _;omega):q:=e h
theorem dx{p q:Prop}(h:p)(e:p=q:=by exact rfl):q:=e▸h
def ac:=@if_neg
def ae:=@if_pos
def ak:=@Nat.le_refl
def ay:=@List.length_append
def aA:=@decide_eq_false
def aB:=@decide_eq_true
def aC:=@List.length_map
def aJ:=@Nat.zero_le
def aU:=@List.getElem_mem
def bt:=@List.length_cons
def bA:=@List.mem_append
def bC:=@Nat.le_trans
def bJ:=@Nat.lt_succ_self
def bM:=@List.getElem?_eq_getElem
def bY:=@List.mem_cons
def cA:=@List.getD_eq_getElem?_getD
def cM:=@List.map_append
def cN:=@List.mem_map
def cW:=@Nat.lt_of_lt_of_le
def dt:=@List.take_succ_eq_append_getElem
def du:=@Nat.le_add_right
def dv:=@congrArg
def dC:=@List.append_assoc
def dH:=@List.nil_append
def dM:=@List.mem_singleton
def dW:=@List.length_take
def eB:=@List.append_nil
def eI:=@Bool.not_true
def eJ:=@List.drop_eq_getElem_cons
def eL:=@of_decide_eq_true
def fc:=@List.cons_append
def ff:=@List.eq_nil_of_length_eq_zero
def fQ:=@List.drop_length
def gf:=@Nat.le_of_ble_eq_true
def gg:=@Nat.zero_add
def gv:=@Bool.not_false
def gB:=@List.getElem_of_mem
def gN:=@List.mem_cons_self
def gO:=@List.take_zero
def gZ:=@Iff.rfl
def hN:=@List.length_nil
def hQ:=@List.prefix_rfl
def hU:=@List.take_length
def ir:=@List.flatten_cons
def iC:=@Nat.le_succ
def iL:=@List.map_cons
def iM:=@List.take_of_length_le
def iY:=@Bool.and_eq_true_iff
def jk:=@List.length_set
def jl:=@List.mem_append_right
def jm:=@Nat.succ_pos
def jX:=@Option.some.inj
def kM:=@List.getElem_map
def kN:=@List.not_mem_nil
def li:=@List.mem_cons_of_mem
def lq:=@Nat.zero_mul
def lX:=@List.all_eq_true
def lY:=@or_false
def mF:=@Array.getElem?_eq_some_iff
def mG:=@List.getElem?_drop
def mH:=@List.take_append_drop
def ng:=@List.drop_zero
def nh:=@List.flatten_append
def ni:=@List.mem_map_of_mem
def nk:=@Nat.add_zero
def nR:=@Nat.not_lt_zero
def oH:=@List.drop_drop
def oI:=@List.map_nil
def oJ:=@List.mem_append_left
def oK:=@Nat.add_assoc
def oL:=@Nat.succ_lt_succ
def pF:=@List.getElem?_map
def pW:=@Bool.false_and
def pX:=@Bool.true_and
def pY:=@List.mem_of_find?_eq_some
def qG:=@List.getElem?_take
def qH:=@List.length_drop
def qI:=@List.mem_of_getElem?
def rB:=@Bool.eq_iff_iff
def rC:=@List.getElem?_eq_none
def rD:=@List.length_replicate
def rE:=@List.mem_of_mem_take
def rF:=@List.nodup_append
def rG:=@List.take_succ_cons
def rH:=@Nat.sub_self
def ss:=@Bool.and_eq_true
def su:=@List.length_singleton
def to:=@Bool.false_ne_true
def tp:=@List.getElem?_append_left
def tq:=@List.prefix_append
def tr:=@Nat.le_add_left
def tu:=@Nat.mul_le_mul_right
def tv:=@Nat.succ_mul
def uA:=@List.all_cons
def uB:=@List.find?_some
def uC:=@Nat.sub_zero
def uD:=@if_false
def vK:=@List.all_nil
def vL:=@List.any_cons
def vM:=@List.find?_isSome
def vN:=@List.getElem?_append_right
def vO:=@List.mem_filter
def vP:=@List.take_take
def vQ:=@Nat.lt_of_not_le
def vR:=@if_true
def xx:=@Array.getElem?_setIfInBounds_self_of_lt
def xy:=@Bool.and_true
def xA:=@Bool.false_eq_true
def xB:=@List.getElem?_eq_some_iff
def xD:=@List.take_nil
def xE:=@Nat.add_mul
def xG:=@Nat.add_sub_cancel_left
def xH:=@Nat.min_eq_left
def xI:=@Nat.mul_comm
def xJ:=@Nat.pow_succ
def xK:=@Option.isSome_iff_exists
def zL:=@Array.getElem?_toList
def zM:=@List.contains_iff_mem
def zN:=@List.exists_cons_of_ne_nil
def zO:=@List.find?_cons_of_neg
def zP:=@List.length_pos_iff
def zQ:=@List.map_map
def zR:=@List.set_cons_succ
def zS:=@List.set_cons_zero
def zU:=@Nat.le_of_lt
def zV:=@Nat.min_le_right
def zW:=@Nat.mul_one
def zX:=@beq_iff_eq
def BL:=@Array.ext_getElem?
def BM:=@List.any_eq_true
def BO:=@List.filter_append
def BP:=@List.filter_cons
def BQ:=@List.getElem_cons_succ
def BS:=@List.mem_range
def BT:=@List.nodup_cons
def BV:=@List.replicate_succ
def BW:=@Nat.add_sub_cancel
def BX:=@Nat.le_of_eq
def BY:=@Nat.lt_succ_of_lt
def BZ:=@Nat.mod_lt
def B0:=@true_and
def Ej:=@Array.getElem?_eq_getElem
def Ek:=@Array.toList_map
def El:=@Bool.and_false
def Em:=@Bool.false_or
def En:=@List.find?_cons_of_pos
def Eo:=@List.getElem_take
def Ep:=@List.length_reverse
def Er:=@List.length_zipWith
def Es:=@List.set_append_right
def Et:=@List.take_left'
def Eu:=@Nat.lt_of_le_of_lt
def Ew:=@Nat.mod_eq_of_lt
def Ey:=@Nat.pow_mul
def EA:=@and_true
def EB:=@implies_true
def EC:=@of_decide_eq_false
def Ij:=@Bool.or_eq_true
def Ik:=@List.contains_cons
def Il:=@List.drop_left'
def Im:=@List.drop_take
def Io:=@List.filter_cons_of_neg
def Ip:=@List.filter_cons_of_pos
def Iq:=@List.flatten_nil
def Ir:=@List.flatten_singleton
def Is:=@List.getElem_append_left
def Iu:=@List.map_set
def Iv:=@List.mem_of_mem_drop
def Iw:=@List.nodup_nil
def Iy:=@List.reverse_cons
def Iz:=@List.take_set_of_le
def IA:=@Nat.add_comm
def IB:=@Nat.mul_assoc
def IC:=@Nat.mul_pos
def ID:=@Nat.one_mul
def IE:=@Nat.succ_le_succ
def IF:=@decide_eq_true_eq
def NM:=@Array.ext'
def NN:=@Array.getD_eq_getD_getElem?
def NO:=@Bool.eq_false_iff
def NP:=@Bool.or_false
def NQ:=@Int.natCast_mul
def NR:=@List.Perm.append_left
def NS:=@List.all_append
def NU:=@List.any_eq_false
def NV:=@List.append_eq_nil_iff
def NW:=@List.drop_append_of_le_length
def NX:=@List.drop_eq_nil_of_le
def NY:=@List.drop_set_of_lt
def NZ:=@List.ext_getElem
def N1:=@List.ext_getElem?
def N2:=@List.filter_nil
def N7:=@List.foldl_cons
def N8:=@List.getElem?_set
def Oa:=@List.getElem_set_self
def Ob:=@List.getLast?_eq_getElem?
def Oc:=@List.length_filter_le
def Od:=@List.map_eq_nil_iff
def Oe:=@List.map_id
def Of:=@List.map_replicate
def Og:=@List.take_add_one
def Oh:=@Nat.ble_eq_true_of_le
def Oi:=@Nat.blt_eq
def Oj:=@Nat.div_div_eq_div_mul
def Ok:=@Nat.div_le_self
def Ol:=@Nat.le_mul_of_pos_right
def Om:=@Nat.le_succ_of_le
def On:=@Nat.not_lt
def Oq:=@Nat.pos_of_ne_zero
def Ot:=@Nat.pow_add
def Ou:=@Nat.pow_le_pow_right
def Ov:=@Nat.shiftLeft_eq
def Ow:=@UInt8.toNat_inj
def Ox:=@UInt8.toNat_ofNat'
def Oy:=@false_implies
def Oz:=@not_false_eq_true
def Zw:=@Array.getElem?_modify
def Zx:=@Array.getElem?_replicate
def Zy:=@Array.getElem?_setIfInBounds_ne
def ZA:=@Array.length_toList
def ZB:=@Array.mem_of_getElem?
def ZC:=@ByteArray.data_append
def ZD:=@ByteArray.data_extract
def ZE:=@Classical.byContradiction
def ZF:=@Int.add_mul_emod_self_left
def ZG:=@Int.emod_eq_of_lt
def ZH:=@Int.fdiv_eq_ediv_of_nonneg
def ZI:=@List.contains_append
def ZJ:=@List.contains_nil
def ZK:=@List.dropLast_concat_getLast
def ZM:=@List.drop_of_length_le
def ZN:=@List.filter_eq_nil_iff
def ZO:=@List.find?_eq_none
def ZP:=@List.findIdx?_cons
def ZQ:=@List.getElem?_range
def ZR:=@List.getElem?_set_ne
def ZS:=@List.getElem?_set_self
def ZT:=@List.getElem?_toArray
def ZU:=@List.getElem_append_right
def ZV:=@List.getLast?_eq_some_getLast
def ZW:=@List.length_filter_lt_length_iff_exists
def ZX:=@List.map_congr_left
def ZY:=@List.mem_or_eq_of_mem_set
def ZZ:=@List.perm_append_comm
def aaa:=@List.range_eq_range'
def aab:=@List.replicate_zero
def aac:=@List.set_append_left
def aad:=@List.take_append_of_le_length
def aae:=@Nat.lt_succ_iff_lt_or_eq
def aaf:=@Nat.shiftRight_eq_div_pow
def aag:=@UInt8.toNat_ofNat_of_lt'
def aah:=@beq_eq_false_iff_ne
def aai:=@decide_eq_true_iff
def _root_.Eq.t{d:Sort _}{a b c:d}(h:a=b)(k:b=c):a=c:=h.trans k
def _root_.Eq.s{c:Sort _}{a b:c}(h:a=b):b=a:=h.symm
end
section
section
inductive Cp where
 |k (c:Nat)
 |B (size:Nat)
 |s (size:Nat)
inductive AV where
 |l (b:Bool)
 |i (k:IntKind) (n:Nat)
 |s (n v:Nat)
 |r
 |p (b off:Nat)
 |e
 |a (b off len:Nat) (cap:Cp)
 |func (f:FuncId) (first captured:List AV)
 |d
 |h
 |g (cs:List AV)
 |t (vs:List AV)
 |map (b:Nat)
 |c
 deriving Inhabited
inductive OK where
 |mk
inductive OM where
 |mk
def II:OK:=.mk
def LL:OM:=.mk
instance:CoeFun OK λ_=>Nat->AV:=⟨λ_=>.i .i64⟩
instance:Coe Nat AV:=⟨λn=>.i .i64 n⟩
instance:Coe (Nat×Nat) AV:=⟨λn=>.s n.1 n.2⟩
instance:Coe Bool AV:=⟨.l⟩
instance:Coe (List AV) AV:=⟨.g⟩
def bp:AV:=.t []
inductive Ex where
 |normal|exit (id:Nat)|ret
def I9:IntKind->Nat|.i8=>8|.i16=>16|.i32=>32|.i64=>64|.u8=>8|.u16=>16|.u32=>32|.u64=>64
def br:IntKind->Nat|.i8=>256|.i16=>65536|.i32=>4294967296|.i64=>18446744073709551616|.u8=>256|.u16=>65536|.u32=>4294967296|.u64=>18446744073709551616
def lM:IntKind->Nat|.i8=>128|.i16=>32768|.i32=>2147483648|.i64=>9223372036854775808|.u8=>256|.u16=>65536|.u32=>4294967296|.u64=>18446744073709551616
def SQ:IntKind->Nat|.i8=>0|.i16=>1|.i32=>2|.i64=>3|.u8=>4|.u16=>5|.u32=>6|.u64=>7
def iT(a b:IntKind):Bool:=Nat.beq (SQ a) (SQ b)
def cT(k:IntKind)(a:Nat):Bool:=Nat.ble (a+1) (lM k)
def bg(k:IntKind)(a:Nat):Int:=if cT k a then(a:Int) else(a:Int)-br k
def res(k:IntKind)(n:Int):Nat:=(n%(br k:Int)).toNat
def aY:L UInt8->Nat
 |[]=>0
 |b::r=>b.toNat+256*aY r
def Fx(v:Value):Option AV:=match v with
 |.bool b=>some (.l b)
 |.int k n=>if bg k (res k n)=n then some (.i k (res k n)) else none
 |.string s=>some (.s (N s.data.toList) (aY s.data.toList))
 |.pointer none=>some .r
 |.slice none 0 0=>some .e
 |.nilFunc=>some .d
 |.nilIface=>some .h
 |.map none=>some .c
 |_=>none
def Fy:L Value->Option (L AV)
 |[]=>some []
 |v::l=>match Fx v,Fy l with|some a,some r=>some (a::r)|_,_=>none
def cv(v:Value):Option AV:=match v with
 |.agg a=>match Fy a.toList with|some l=>some (.g l)|none=>none
 |.tuple ⟨[]⟩=>some (.t [])
 |v=>Fx v
def dZ(x:AV):Option (L AV):=match x with|.g l=>some l|.t _=>none|x=>some [x]
def jc(x:AV):L AV:=match x with|.g l=>l|x=>[x]
structure FD where
 b:Bool
 ty:Nat
 o:Nat
 size:Nat
 g:Bool
inductive TD where
 |l|i (k:IntKind)|s|p|a (elem size bytes:Nat)|y (n elem size:Nat) (agg:Bool)|t (fs:List FD)|e|func|map (key elem:Nat)|o
def K7(d:TypeDesc):Bool:=match d with|.struct _=>true|.array _ _=>true|_=>false
def bS(P:Program)(t:TypeId):Option (Nat×Nat×Bool):=match P.info? t with
 |some i=>(match P.underlying t with|some d=>some (i.size,i.bytes,K7 d)|none=>none)
 |none=>none
def Kf(P:Program)(f:Field):Option FD:=match bS P f.type with|some (s,_,a)=>some ⟨f.name== "_",f.type,f.offset,s,a⟩|none=>none
def tS(P:Program):L Field->Option (L FD)
 |[]=>some []
 |f::a=>match Kf P f,tS P a with|some d,some a=>some (d::a)|_,_=>none
def av(P:Program)(t:TypeId):TD:=match P.underlying t with
 |some .bool=>.l
 |some (.int k)=>.i k
 |some .string=>.s
 |some (.pointer _)=>.p
 |some (.slice e)=>(match bS P e with|some (s,b,_)=>.a e s b|none=>.o)
 |some (.array n e)=>(match bS P e with|some (s,_,a)=>.y n e s a|none=>.o)
 |some (.struct a)=>(match tS P a.toList with|some l=>.t l|none=>.o)
 |some (.interface _)=>.e
 |some (.func ..)=>.func
 |some (.map k e)=>.map k e
 |_=>.o
def cr(P:Program)(t:TypeId):Option AV:=match P.info? t with
 |some i=>(match i.zero with|some v=>(match cv v with|some z=>(match dZ z with|some l=>if N l=i.size then some z else none|none=>none)|none=>none)|none=>none)
 |none=>none
def rY(c:Bool)(b:Nat)(d:L AV)(a:Nat):Option AV:=if c then some (.g ((d.drop a).take b)) else d[a]?
def qC(v i:Nat):Nat:=Nat.mod (Nat.shiftRight v (Nat.mul 8 i)) 256
def uu(v l n:Nat):Nat:=Nat.mod (Nat.shiftRight v (Nat.mul 8 l)) (Nat.shiftLeft 1 (Nat.mul 8 n))
def xg(n v w:Nat):Nat:=Nat.add v (Nat.shiftLeft w (Nat.mul 8 n))
def aI(n v m w:Nat):Bool:=n==m&&v==w
def strLt:Nat->Nat->Nat->Nat->Bool
 |0,_,m,_=>m !=0
 |n+1,v,m,w=>m !=0&&(if v%256=w%256 then strLt n (v/256) (m-1) (w/256) else Nat.blt (v%256) (w%256))
def fU(k:IntKind)(a b:Nat):Bool:=if cT k a then(if cT k b then Nat.blt a b else false) else if cT k b then true else Nat.blt a b
def MS(k:IntKind)(a n:Nat):Nat:=a*2^n%br k
def HJ(k:IntKind)(a n:Nat):Nat:=if cT k a then a/2^n else res k (Int.fdiv (bg k a) (2^n))
def vv(k:IntKind)(a b:Nat):Nat:=if cT k a&&cT k b then a/b else res k (Int.tdiv (bg k a) (bg k b))
def vx(k:IntKind)(a b:Nat):Nat:=if cT k a&&cT k b then a%b else res k (Int.tmod (bg k a) (bg k b))
abbrev Q:=AV->AV->Option Bool
def Hi:Q|.l a,.l b=>some (a==b)|_,_=>none
def lR:Q|.i k a,.i c b=>if iT k c then some (a==b) else none|_,_=>none
def kh:Q|.s n v,.s m w=>some (aI n v m w)|_,_=>none
def Xb:Q|.r,.r=>some true|.r,.p _ _=>some false|.p _ _,.r=>some false|_,_=>none
def Xc:Q|.e,.e=>some true|.e,.a _ _ _ _=>some false|.a _ _ _ _,.e=>some false|_,_=>none
def W9:Q|.d,.d=>some true|.d,.func _ _ _=>some false|.func _ _ _,.d=>some false|_,_=>none
def o2(x y:Option AV)(q:Q):Option Bool:=match x,y with|some a,some b=>q a b|_,_=>none
def wc(a:Option Bool)(b:Option Bool):Option Bool:=match a with|some true=>b|some false=>some false|none=>none
def DJ(a:TypeId->Q):L FD->L AV->L AV->Option Bool
 |[],_,_=>some true
 |f::r,b,c=>if f.b then DJ a r b c else wc (o2 (rY f.g f.size b f.o) (rY f.g f.size c f.o) (a f.ty)) (DJ a r b c)
def Mg(q:Q)(b:Bool)(a:Nat)(c d:L AV):Nat->Nat->Option Bool
 |0,_=>some true
 |n+1,i=>wc (o2 (rY b a c (i*a)) (rY b a d (i*a)) q) (Mg q b a c d n (i+1))
def q2(g:L AV->L AV->Option Bool):Q|.g a,.g b=>g a b|_,_=>none
def wx(P:Program):Nat->TypeId->Q
 |0,_=>λ_ _=>none
 |d+1,t=>match av P t with
  |.l=>Hi|.i _=>lR|.s=>kh|.p=>Xb|.a _ _ _=>Xc|.func=>W9
  |.y n elem size agg=>q2 λa b=>Mg (wx P d elem) agg size a b n 0
  |.t a=>if P.stoodInHeld t then λ_ _=>none else q2 (DJ (wx P d) a)
  |_=>λ_ _=>none
def oU(P:Program)(t:TypeId):Q:=wx P 20 t
def AL(x:Operand):Bool:=match x with|.const _=>true|_=>false
def vd(P:Program)(t:TypeId)(a:Bool):Bool:=match av P t with|.y _ _ _ _|.t _=>!P.eqGuardType P.depth t|.e=>a|_=>true
def wk:Nat->Nat->L AV
 |0,_=>[]
 |n+1,v=>.i .u8 (v%256)::wk n (v/256)
def fieldPlace(a:L FD)(i:Nat):Option (Nat×Nat):=match a[i]? with|some f=>some (f.o,f.size)|none=>none
def LM(a b:Option Operand):Bool:=match a,b with|none,some _=>true|_,_=>false
def Gk(P:Program)(x:Operand):Bool:=match x with|.const v=>(match cv v with|some _=>true|none=>false)|.global g=>Nat.ble (g+1) P.globals.size|_=>true
def asBool(v:AV)(k:Bool->Bool):Bool:=match v with|.l b=>k b|_=>false
def yx(a:L Oper)(j:Nat):Option Nat:=match a[j]? with|some o=>o.dst|none=>none
inductive OF where
 |p|alloc|read|az
def cls(P:Program)(a:Op):OF:=match a with
 |.alloc _|.box ..|.buildSlice ..|.makeSlice ..|.makeMap ..=>.alloc
 |.load ..|.lookup ..=>.read
 |.convert src dst _=>(match av P dst with|.s=>.read|.a _ _ _=>if src=dst then .read else .alloc|_=>.p)
 |.store ..|.mapUpdate ..=>.az
 |.call c=>(match c.callee with|.builtin .len=>.read|.builtin .min=>.p|.builtin .cap=>.p|_=>.az)
 |_=>.p
inductive BN where
 |none
 |E (ro:Bool) (l:List AV)
 |mp (es:List (AV×AV))
 |gM (l:List AV)
instance:CoeFun OM λ_=>List AV->BN:=⟨λ_=>.E false⟩
structure HN where
 h:Nat
 f:Nat->BN
abbrev FN:=Nat->AV
def HN.put(U:HN)(b:Nat)(y:BN):HN:=⟨U.h,λa=>if a=b then y else U.f a⟩
def HN.X(U:HN)(y:BN):HN:=⟨U.h+1,λa=>if a=U.h then y else U.f a⟩
def mE(a:FN)(d:Nat)(v:AV):FN:=λt=>if t=d then v else a t
def be(d:Option Nat)(v:AV)(a:FN):FN:=match d with|none=>a|some d=>mE a d v
inductive aZ where
 |no
 |ok (v:AV) (U:HN)
 |call (f:FuncId) (args:List AV)
def JC(o:Option AV):AV:=match o with|some a=>a|none=>bp
def au(a:FN)(o:Operand):AV:=match o with
 |.tmp t=>a t
 |.const v=>JC (cv v)
 |.global g=>.p g 0
 |.func f=>.func f [] []
def pP(a:FN)(o:Option Operand):Option AV:=match o with|none=>none|some x=>some (au a x)
def dz(l:L AV)(i:Nat):L AV->L AV
 |[]=>l
 |a::r=>dz (l.set i a) (i+1) r
def ia(o:Option AV)(a:HN):aZ:=match o with|some v=>.ok v a|none=>.no
def okI(c:Bool)(r:aZ):aZ:=match c with|true=>r|false=>.no
def oi(d:BinOp)(k:IntKind)(a:Nat)(c:IntKind)(b:Nat):Option AV:=match d with
 |.shl=>if cT c b then some (.i k (MS k a (min b (I9 k)))) else none
 |.shr=>if cT c b then some (.i k (HJ k a (min b (I9 k)))) else none
 |.add=>if iT k c then some (.i k ((a+b)%br k)) else none
 |.sub=>if iT k c then some (.i k ((a+(br k-b))%br k)) else none
 |.mul=>if iT k c then some (.i k ((a*b)%br k)) else none
 |.quo=>if iT k c then(if b=0 then none else some (.i k (vv k a b))) else none
 |.rem=>if iT k c then(if b=0 then none else some (.i k (vx k a b))) else none
 |.and=>if iT k c then some (.i k (a &&& b)) else none
 |.or=>if iT k c then some (.i k (a|||b)) else none
 |.xor=>if iT k c then some (.i k (a ^^^ b)) else none
 |.andNot=>if iT k c then some (.i k (a &&& (br k-1-b))) else none
 |.eql=>if iT k c then some (.l (a==b)) else none
 |.neq=>if iT k c then some (.l (!(a==b))) else none
 |.lss=>if iT k c then some (.l (fU k a b)) else none
 |.leq=>if iT k c then some (.l (!fU k b a)) else none
 |.gtr=>if iT k c then some (.l (fU k b a)) else none
 |.geq=>if iT k c then some (.l (!fU k a b)) else none
def zC(a:BinOp)(n v m w:Nat):Option AV:=match a with
 |.add=>if n+m<=9223372036854775807 then some (.s (n+m) (xg n v w)) else none
 |.eql=>some (.l (aI n v m w))
 |.neq=>some (.l (!aI n v m w))
 |.lss=>some (.l (strLt n v m w))
 |.leq=>some (.l ((strLt n v m w||aI n v m w)))
 |.gtr=>some (.l (!(strLt n v m w||aI n v m w)))
 |.geq=>some (.l (!strLt n v m w))
 |_=>none
def Ah(a:Bool)(o:Option Bool):Option AV:=match o with|some b=>some (.l (if a then !b else b))|none=>none
def pJ(P:Program)(b:BinOp)(t:TypeId)(a:Bool)(x y:AV):Option AV:=if vd P t a then(match b with
 |.eql=>Ah false (oU P t x y)
 |.neq=>Ah true (oU P t x y)
 |_=>none) else none
def uN(P:Program)(d:BinOp)(t:TypeId)(e:Bool)(x y:AV):Option AV:=match x,y with
 |.i k a,.i c b=>oi d k a c b
 |.s n v,.s m w=>zC d n v m w
 |.l a,y=>pJ P d t e (.l a) y
 |.r,y=>pJ P d t e .r y
 |.p b o,y=>pJ P d t e (.p b o) y
 |.e,y=>pJ P d t e .e y
 |.a b o l c,y=>pJ P d t e (.a b o l c) y
 |.d,y=>pJ P d t e .d y
 |.func f a b,y=>pJ P d t e (.func f a b) y
 |.g l,y=>pJ P d t e (.g l) y
 |_,_=>none
def BF(c:UnOp)(x:AV):Option AV:=match c,x with
 |.neg,.i k a=>some (.i k ((br k-a)%br k))
 |.xor,.i k a=>some (.i k (br k-1-a))
 |.not,.l b=>some (.l (!b))
 |_,_=>none
def rS(b k:IntKind)(a:Nat):Nat:=if cT k a then a%br b else res b (bg k a)
def Gx(o:Option AV)(a:HN):aZ:=ia o a
def yP(b:Bool)(s a:Nat)(x:BN)(c:HN):aZ:=match x with
 |.E _ l=>(match b with
  |true=>if a+s<=N l then .ok (.g ((l.drop a).take s)) c else .no
  |false=>Gx l[a]? c)
 |_=>.no
def sM(c:Option (Nat×Nat×Bool))(x:AV)(a:HN):aZ:=match c,x with
 |some (s,_,agg),.p b off=>yP agg s off (a.f b) a
 |_,_=>.no
def HP(s b a:Nat)(c:L AV)(x:BN)(d:HN):aZ:=match x with
 |.E false l=>if N c=s/\a+s<=N l then .ok bp (d.put b (.E false (dz l a c))) else .no
 |_=>.no
def HQ(s b a:Nat)(c:Option (L AV))(x:BN)(d:HN):aZ:=match c with|some l=>HP s b a l x d|none=>.no
def Bs(c:Option (Nat×Nat×Bool))(x v:AV)(a:HN):aZ:=match c,x with
 |some (s,_,_),.p b off=>HQ s b off (dZ v) (a.f b) a
 |_,_=>.no
def sQ(o:Option (L AV))(a:HN):aZ:=match o with|some l=>.ok (.p a.h 0) (a.X (.E false l))|none=>.no
def mm(i:AV)(k:Nat->aZ):aZ:=match i with|.i b a=>if cT b a then k a else .no|_=>.no
def yJ(a:Option FD)(x:AV)(c:HN):aZ:=match a,x with
 |some a,.g b=>ia (rY a.g a.size b a.o) c
 |_,_=>.no
def yI(a:Option FD)(x:AV)(c:HN):aZ:=match a,x with
 |some a,.p b off=>if a.size=0 then .no else .ok (.p b (off+a.o)) c
 |_,_=>.no
def qV(a:TD)(f:Nat):Option FD:=match a with|.t a=>a[f]?|_=>none
def wE(b:TD)(x i:AV)(a:HN):aZ:=match b,x with
 |.a _ s _,.a b off len _=>mm i λi=>if i<len then .ok (.p b (off+i*s)) a else .no
 |.y n _ s _,.p b off=>mm i λi=>if i<n then .ok (.p b (off+i*s)) a else .no
 |_,_=>.no
def yN(a:TD)(x i:AV)(b:HN):aZ:=match a,x with
 |.s,.s n v=>mm i λi=>if i<n then .ok (.i .u8 (qC v i)) b else .no
 |.y n _ s a,.g c=>mm i λi=>if i<n then ia (rY a s c (i*s)) b else .no
 |_,_=>.no
def yA(x:AV)(i:Nat)(a:HN):aZ:=match x with|.t l=>ia l[i]? a|_=>.no
def qW(c:FN)(a:Nat->Option (Nat×Nat)):L (Nat×Operand)->L AV->Option (L AV)
 |[],b=>some b
 |p::r,b=>match a p.1,dZ (au c p.2) with
  |some (o,s),some l=>if N l=s/\o+s<=N b then qW c a r (dz b o l) else none
  |_,_=>none
def xY(o:Option (L AV))(a:HN):aZ:=match o with|some l=>.ok (.g l) a|none=>.no
def wg(d:TD)(z:Option AV)(c:FN)(a:L (Nat×Operand))(b:HN):aZ:=match d,z with
 |.y _ _ s _,some z=>xY (qW c (λi=>some (i*s,s)) a (jc z)) b
 |.t d,some z=>xY (qW c (fieldPlace d) a (jc z)) b
 |_,_=>.no
def th(a:Nat)(o:Option (L AV))(b:HN):aZ:=match o with|some l=>.ok (.a b.h 0 a (.k a)) (b.X (.E false l))|none=>.no
def jU(n:Nat)(l:L AV):L AV:=(List.replicate n l).flatten
def wi(P:Program)(d:TD)(a:Nat)(e:FN)(b:L (Nat×Operand))(c:HN):aZ:=match d with
 |.a el s _=>if a*s=0 then(match b with|[]=>th a (some []) c|_=>.no)
  else if a*s<=16777216 then(match cr P el with|some z=>th a (qW e (λi=>some (i*s,s)) b (jU a (jc z))) c|none=>.no) else .no
 |_=>.no
def vk(P:Program)(b:TD)(l c:AV)(a:HN):aZ:=match b with
 |.a el _ bytes=>(match cr P el with
  |some z=>mm l λl=>mm c λc=>if l<=c/\bytes≠0/\c*bytes<=140737488355328 then .ok (.a a.h 0 l (.k c)) (a.X (.E false (jU c (jc z)))) else .no
  |none=>.no)
 |_=>.no
def tH(o:Option AV)(d:Nat)(k:Nat->aZ):aZ:=match o with|none=>k d|some v=>mm v k
def mO(d c:Option AV)(a b:Nat)(k:Nat->Nat->aZ):aZ:=tH d 0 λl=>tH c a λa=>if l<=a/\a<=b then k l a else .no
def sq(b a l e c s:Nat)(d:HN):aZ:=if c=l then .ok (.a b a 0 (.k 0)) d else .ok (.a b (a+l*s) (e-l) (.k (c-l))) d
def sn(f e:Option AV)(b d c:Nat)(a:Cp)(g:HN)(r:aZ):aZ:=match f,e with|none,some y=>mm y λm=>if m<=c then .ok (.a b d m a) g else r|_,_=>r
def mV(a:TD)(x:AV)(e d g:Option AV)(f:HN):aZ:=match a,x,g with
 |.s,.s n v,none=>mO e d n n λl a=>.ok (.s (a-l) (uu v l (a-l))) f
 |.a _ s _,.e,none=>mO e d 0 0 λ_ _=>.ok .e f
 |.a _ s _,.e,some m=>mm m λm=>if m=0 then mO e d 0 0 λ_ _=>.ok .e f else .no
 |.a _ s _,.a b off len (.k c),none=>sn e d b off len (.k c) f (mO e d len c λl a=>sq b off l a c s f)
 |.a _ s _,.a b off len (.k c),some m=>mm m λm=>if m<=c then mO e d len m λl a=>sq b off l a m s f else .no
 |.a _ s _,.a b off len (.B es),none=>sn e d b off len (.B es) f (if es=s then mO e d len len λl a=>.ok (.a b (off+l*s) (a-l) (.B s)) f else .no)
 |.a _ s _,.a b off len (.B es),some m=>if es=s then mm m λm=>if m<=len then mO e d len m λl a=>sq b off l a m s f else .no else .no
 |.y n _ s _,.p b off,none=>mO e d n n λl a=>sq b off l a n s f
 |.a _ _ _,.a b off len (.s es),none=>sn e d b off len (.s es) f .no
 |_,_,_=>.no
def mr(n:Nat)(a:HN):aZ:=if n<=9223372036854775807 then .ok (.i .i64 n) a else .no
def eF(b:TD)(x:AV)(a:HN):aZ:=match b,x with
 |.s,.s n _=>mr n a
 |.a _ _ _,.e=>mr 0 a
 |.a _ _ _,.a _ _ n _=>mr n a
 |.y n _ _ _,_=>mr n a
 |_,_=>.no
def yt(b:TD)(x:AV)(a:HN):aZ:=match b,x with
 |.a _ _ _,.e=>mr 0 a
 |.a _ _ _,.a _ _ _ (.k c)=>mr c a
 |_,_=>.no
def pq(x:BN)(a n:Nat):Option (L AV):=match x with|.E _ l=>if a+n<=N l then some ((l.drop a).take n) else none|_=>none
def xZ(m s:Nat)(o:Option (L AV))(a:L AV)(c:HN):aZ:=match o with|some b=>.ok (.a c.h 0 m (.B s)) (c.X (.E false (b++a)))|none=>.no
def sH(b d a s n c:Nat)(e:L AV)(x:BN)(f:HN):aZ:=if a+n<=c then
  (match x with|.E false l=>if d+a*s+n*s<=N l then .ok (.a b d (a+n) (.k c)) (f.put b (.E false (dz l (d+a*s) e))) else .no|_=>.no)
 else xZ (a+n) s (pq x d (a*s)) e f
def we(b c a s n:Nat)(d:L AV)(x:BN)(e:HN):aZ:=match x with
 |.E false l=>if c+a*s+n*s<=N l then .ok (.a b c (a+n) (.B s)) (e.put b (.E false (dz l (c+a*s) d)))
  else if c+a*s=N l/\N d=n*s then .ok (.a e.h 0 (a+n) (.B s)) ((e.put b .none).X (.E false (l.drop c++d)))
  else if c+a*s<=N l/\N d=n*s then .ok (.a e.h 0 (a+n) (.B s)) ((e.put b .none).X (.E false ((l.drop c).take (a*s)++d))) else .no
 |_=>.no
def Af(b d a s n:Nat)(c:L AV)(x:BN)(e:HN):aZ:=match x with
 |.E false l=>if d=0/\a*s=N l/\N c=n*s then .ok (.a e.h 0 (a+n) (.s s)) ((e.put b (.E true l)).X (.gM (l++c))) else .no
 |.gM l=>if d=0/\a*s=N l/\N c=n*s then .ok (.a e.h 0 (a+n) (.s s)) ((e.put b .none).X (.gM (l++c))) else .no
 |_=>.no
def lI(s a:Nat)(x:AV)(n:Nat)(e:L AV)(d:HN):aZ:=match x with
 |.e=>if n=0 then .ok .e d else if n*a<=140737488355328 then .ok (.a d.h 0 n (.B s)) (d.X (.E false e)) else .no
 |.a b off len cap=>if(len+n)*a<=140737488355328 then(if n=0 then .ok (.a b off len cap) d else(match cap with
  |.k c=>sH b off len s n c e (d.f b) d
  |.B es=>if es=s then we b off len s n e (d.f b) d else .no
  |.s es=>if es=s then Af b off len s n e (d.f b) d else .no)) else .no
 |_=>.no
def Cq(s a:Nat)(x:AV)(n:Nat)(o:Option (L AV))(b:HN):aZ:=match o with|some l=>lI s a x n l b|none=>.no
def gj(s a:Nat)(x y:AV)(c:HN):aZ:=match y with
 |.s n v=>if s=1 then lI s a x n (wk n v) c else .no
 |.e=>lI s a x 0 [] c
 |.a b off len _=>if len=0 then lI s a x 0 [] c else Cq s a x len (pq (c.f b) off (len*s)) c
 |_=>.no
def yc(P:Program)(c a:TD)(x y:AV)(b:HN):aZ:=match c,a with
 |.a el s bytes,.i _=>if s*bytes=0 then .no else(match cr P el with|some z=>mm y λn=>if n*bytes<=140737488355328 then lI s bytes x n (jU n (jc z)) b else .no|none=>.no)
 |.a el s bytes,.s=>if s*bytes=0 then .no else(match cr P el with|some _=>gj s bytes x y b|none=>.no)
 |.a el s bytes,.a _ _ _=>if s*bytes=0 then .no else(match cr P el with|some _=>gj s bytes x y b|none=>.no)
 |_,_=>.no
def CD(s b a n:Nat)(o:Option (L AV))(x:BN)(c:HN):aZ:=match o,x with
 |some new,.E false l=>if a+n*s<=N l/\n<=9223372036854775807 then .ok (.i .i64 n) (c.put b (.E false (dz l a new))) else .no
 |_,_=>.no
def Fu(b:TD)(x y:AV)(a:HN):aZ:=match b,x,y with
 |.a _ s _,.a b off len _,.s n v=>if s=1 then CD s b off (min n len) (some (wk (min n len) v)) (a.f b) a else .no
 |.a _ s _,.a b off len _,.a e d c _=>CD s b off (min c len) (pq (a.f e) d (min c len*s)) (a.f b) a
 |.a _ _ _,.a _ _ _ _,.e=>.ok (.i .i64 0) a
 |.a _ _ _,.e,.s _ _=>.ok (.i .i64 0) a
 |.a _ _ _,.e,.e=>.ok (.i .i64 0) a
 |.a _ _ _,.e,.a _ _ _ _=>.ok (.i .i64 0) a
 |_,_,_=>.no
def yV(x y:AV):Option AV:=match x,y with|.i k a,.i c b=>if iT k c then some (.i k (if fU k b a then b else a)) else none|_,_=>none
def yp:L AV->Option Nat
 |[]=>some 0
 |.i .u8 n::l=>(match yp l with|some m=>some (n+256*m)|none=>none)
 |_::_=>none
def Am(s b a n:Nat)(c:L AV)(x:BN)(d:HN):aZ:=match x with|.E false l=>if a+n*s<=N l then .ok bp (d.put b (.E false (dz l a c))) else .no|_=>.no
def An(P:Program)(b:TD)(x:AV)(a:HN):aZ:=match b,x with
 |.a el s _,.a b off len _=>(match cr P el with|some z=>if len=0 then .ok bp a else Am s b off len (jU len (jc z)) (a.f b) a|none=>.no)
 |_,_=>.no
def zD(n:Nat)(o:Option Nat)(a:HN):aZ:=match o with|some v=>.ok (.s n v) a|none=>.no
def Bx(n:Nat)(o:Option (L AV))(a:HN):aZ:=match o with|some l=>zD n (yp l) a|none=>.no
def wF(a:TD):Bool:=match a with|.i .u8=>true|_=>false
def oh(P:Program)(b a:TD)(x:AV)(c:HN):aZ:=match a,b,x with
 |.i b,.i _,.i k a=>.ok (.i b (rS b k a)) c
 |.s,.s,.s n v=>.ok (.s n v) c
 |.s,.a e _ _,.e=>if wF (av P e) then .ok (.s 0 0) c else .no
 |.s,.a e _ _,.a b o l _=>if wF (av P e) then Bx l (pq (c.f b) o l) c else .no
 |.a e _ _,.s,.s n v=>if wF (av P e) then .ok (.a c.h 0 n (.B 1)) (c.X (.E false (wk n v))) else .no
 |_,_,_=>.no
def Hs(y:BN)(v:AV)(a:HN):aZ:=match y with|.E false _=>.ok v a|_=>.no
def yv(P:Program)(b:TD)(x:AV)(a:HN)(r:aZ):aZ:=match b,x with
 |.a e _ _,.a b o l c=>if wF (av P e) then(if l=0 then .no else Hs (a.f b) (.a b o l c) a) else r
 |_,_=>r
def AC(a:AV)(b:L AV):aZ:=match a with|.func f a c=>.call f (a++(b++c))|_=>.no
def Cs(P:Program)(b:Builtin)(d:L Operand)(e:L TypeId)(a:FN)(c:HN):aZ:=match b,d,e with
 |.len,[x],t::_=>eF (av P t) (au a x) c
 |.cap,[x],t::_=>yt (av P t) (au a x) c
 |.append,[x,y],t::t2::_=>yc P (av P t) (av P t2) (au a x) (au a y) c
 |.copy,[x,y],t::_::_=>Fu (av P t) (au a x) (au a y) c
 |.min,[x,y],_::_::_=>ia (yV (au a x) (au a y)) c
 |.clear,[x],t::_=>An P (av P t) (au a x) c
 |_,_,_=>.no
def yr(P:Program)(c:Call)(a:FN)(d:HN):aZ:=match c.callee with
 |.value f=>AC (au a f) (c.args.toList.map (au a))
 |.builtin b=>Cs P b c.args.toList c.argTypes.toList a d
 |_=>.no
def wW(c a b:AV)(d:HN):aZ:=match c with|.l true=>.ok a d|.l false=>.ok b d|_=>.no
def y0(x:AV)(d:HN):aZ:=match x with|.p b o=>.ok (.p b o) d|.func f a c=>.ok (.func f a c) d|_=>.no
def yW(b:Fn)(a c:L AV)(d:HN):aZ:=match b with|.func f=>.ok (.func f a c) d|_=>.no
def ml(q:AV->AV->Option Bool)(k:AV):L (AV×AV)->Option (Option AV)
 |[]=>some none
 |e::r=>match q k e.1 with|some true=>some (some e.2)|some false=>ml q k r|none=>none
def oC(q:AV->AV->Option Bool)(k v:AV):L (AV×AV)->Option (L (AV×AV))
 |[]=>some [(k,v)]
 |e::r=>match q k e.1 with
  |some true=>some ((k,v)::r)
  |some false=>(match oC q k v r with|some r=>some (e::r)|none=>none)
  |none=>none
def wH(a:TD):Option (AV->AV->Option Bool):=match a with|.l=>some Hi|.i _=>some lR|.s=>some kh|_=>none
def uZ(x:BN):Option (L (AV×AV)):=match x with|.mp a=>some a|_=>none
def JW(x:AV)(a:HN):Option (L (AV×AV)):=match x with|.map b=>uZ (a.f b)|.c=>some []|_=>none
def sN(a:Bool)(z:AV)(o:Option AV):AV:=match o with|some v=>if a then .t [v,.l true] else v|none=>if a then .t [z,.l false] else z
def AQ(a:Bool)(z:AV)(o:Option (Option AV))(b:HN):aZ:=match o with|some o=>.ok (sN a z o) b|none=>.no
def yR(q:AV->AV->Option Bool)(b:Bool)(z k:AV)(a:Option (L (AV×AV)))(c:HN):aZ:=match a with|some a=>AQ b z (ml q k a) c|none=>.no
def yS(P:Program)(c:TD)(x k:AV)(b:Bool)(a:HN):aZ:=match c with
 |.map key elem=>(match wH (av P key),cr P elem with|some q,some z=>yR q b z k (JW x a) a|_,_=>.no)
 |_=>.no
def Dj(b:Nat)(o:Option (L (AV×AV)))(c:HN):aZ:=match o with|some a=>.ok bp (c.put b (.mp a))|none=>.no
def AX(q:AV->AV->Option Bool)(b:Nat)(k v:AV)(a:Option (L (AV×AV)))(c:HN):aZ:=match a with|some a=>Dj b (oC q k v a) c|none=>.no
def AY(P:Program)(b:TD)(m k v:AV)(a:HN):aZ:=match b,m with
 |.map key _,.map b=>(match wH (av P key) with|some q=>AX q b k v (uZ (a.f b)) a|none=>.no)
 |_,_=>.no
def TN(r:Option Operand)(a:HN):aZ:=match r with|none=>.ok (.map a.h) (a.X (.mp []))|some _=>.no
def bE(P:Program)(h:Op)(e:FN)(g:HN):aZ:=match h with
 |.move x=>.ok (au e x) g
 |.assign x=>.ok (au e x) g
 |.pick c a b=>wW (au e c) (au e a) (au e b) g
 |.alloc t=>sQ ((cr P t).map jc) g
 |.box _ x=>sQ (dZ (au e x)) g
 |.build t b=>wg (av P t) (cr P t) e b.toList g
 |.buildSlice t n b=>wi P (av P t) n e b.toList g
 |.load t x=>sM (bS P t) (au e x) g
 |.store t x v=>Bs (bS P t) (au e x) (au e v) g
 |.nilCheck x=>y0 (au e x) g
 |.binOp h t x y _=>ia (uN P h t (AL x||AL y) (au e x) (au e y)) g
 |.unOp h _ x=>ia (BF h (au e x)) g
 |.convert s d x=>if s=d then yv P (av P d) (au e x) g (oh P (av P s) (av P d) (au e x) g) else oh P (av P s) (av P d) (au e x) g
 |.makeFunc fn a c=>yW fn (a.toList.map (au e)) (c.toList.map (au e)) g
 |.makeSlice t l c=>vk P (av P t) (au e l) (au e c) g
 |.slice t x d a b=>if LM a b then .no else mV (av P t) (au e x) (pP e d) (pP e a) (pP e b) g
 |.fieldAddr t x f=>yI (qV (av P t) f) (au e x) g
 |.field t x f=>yJ (qV (av P t) f) (au e x) g
 |.indexAddr t x i=>wE (av P t) (au e x) (au e i) g
 |.index t x i=>yN (av P t) (au e x) (au e i) g
 |.extract x i=>yA (au e x) i g
 |.call c=>yr P c e g
 |.makeMap _ r=>TN r g
 |.lookup t x k ok=>yS P (av P t) (au e x) (au e k) ok g
 |.mapUpdate t m k v=>AY P (av P t) (au e m) (au e k) (au e v) g
 |_=>.no
def RZ{a:Type}(n:Nat):(Nat->a)->a:=Nat.rec (motive:=λ_=>(Nat->a)->a) (λk=>k 0) (λm _ k=>k (Nat.succ m)) n
def Cr(look:Nat->Nat)(o:Oper):Nat:=o.after.toList.foldl (λs e=>if Region.binds .any e then s|||2^e.on|||look e.on else s) 0
def yh:L Oper->Nat->L Nat->L Nat
 |[],_,a=>a.reverse
 |o::rest,j,a=>RZ (Cr (λi=>if i<j then a.getD (j-1-i) 0 else 0) o) λv=>yh rest (j+1) (v::a)
def kR(a:L Oper):L Nat:=yh a 0 []
def Sv(a b:OF):Bool:=match a,b with|.p,.p=>true|.alloc,.alloc=>true|.read,.read=>true|.az,.az=>true|_,_=>false
def dV(P:Program)(o:Oper):Bool:=Sv (cls P o.op) .az
def AK(P:Program)(o:Oper):Bool:=Sv (cls P o.op) .alloc
def yz(P:Program)(a:L Oper)(b:L Nat)(j:Nat):Nat:=N ((a.zipIdx).filter λ(o,i)=>dV P o&&(b.getD j 0).testBit i)
def As(P:Program)(a:L Oper)(b:L Nat)(j:Nat):Nat:=N ((a.zipIdx).filter λ(o,i)=>dV P o && !(b.getD i 0).testBit j)
def abB(P:Program)(a:L Oper)(b:L Nat)(j:Nat):Bool:=Nat.beq (yz P a b j) (As P a b j)&&(Nat.beq (yz P a b j) (N ((a.take j).filter (dV P))) && !((a.take j).any (AK P)))
def abC(P:Program)(a:L Oper)(b:L Nat)(j:Nat):Bool:=!(a.any (dV P))&&((a.take j).zipIdx).all λx=>!AK P x.1||(b.getD j 0).testBit x.2
def calm(P:Program)(a:L Oper)(b:L Nat)(j:Nat):Bool:=abB P a b j||abC P a b j
def L4(P:Program)(a:Array Oper)(b:L Nat)(i j:Nat)(x y:Oper):Bool:=(b.getD j 0).testBit i||(x.apart a y && !(dV P y&&dV P x))
def DS(P:Program)(a:Array Oper):Bool:=
 (List.range a.size).all λj=>match a[j]? with
  |some y=>(y.after.toList.all λe=>!Region.binds .any e||Nat.blt e.on j)&&(List.range j).all λi=>match a[i]? with|some x=>L4 P a (kR a.toList) i j x y|none=>true
  |none=>true
abbrev jn:=Ex->FN->HN->Prop
abbrev Spec:=FuncId->L AV->HN->AV->HN->Prop
def mY(C:Spec)(r:aZ)(c:HN)(d:Option Nat)(k:FN->HN->Prop)(b:FN):Prop:=match r with
 |.no=>False
 |.ok v a=>k (be d v b) a
 |.call f args=>∃v a,C f args c v a/\k (be d v b) a
def lg(a:L Oper)(g:Option (Nat×Bool))(c:FN):Bool:=match g with
 |none=>true
 |some (j,w)=>match yx a j with|some d=>asBool (c d) (λb=>b==w)|none=>false
def wpOps(P:Program)(C:Spec)(a:L Oper):L Oper->(FN->HN->Prop)->FN->HN->Prop
 |[],K=>K
 |o::r,K=>λb c=>match lg a o.guard b with
  |true=>mY C (bE P o.op b c) c o.dst (wpOps P C a r K) b
  |false=>wpOps P C a r K (be o.dst bp b) c
inductive DK where
 |alloc|az|p
 |read (lo hi:Nat)
structure kw where
 o:Op
 O:FN
 v:AV
 lo:Nat
 h:Nat
def A5(r:aZ)(v:AV):Prop:=match r with|.ok a _=>a=v|_=>False
def tf(P:Program)(r:kw):L HN->Nat->Prop
 |[],_=>True
 |U::a,k=>(r.lo<=k->k<=r.h->A5 (bE P r.o r.O U) r.v)/\tf P r a (k-1)
def zo(P:Program)(a:L HN)(k:Nat):L kw->Prop
 |[]=>True
 |r::b=>tf P r a k/\zo P a k b
def HN.at_(U:HN)(n:Nat):HN:=⟨n,U.f⟩
def Sd(P:Program)(c:L Oper)(d j:Nat)(C:Spec):Spec:=λf a e v b=>C f a e v b\/∃i o,j<i/\c[i]?=some o/\cls P o.op=.alloc/\o.guard=none/\C f a ⟨e.h,λc=>if c=d+i then .none else e.f c⟩ v b
def yy(k:DK)(b:HN)(a:L HN):L HN:=match k with|.az=>b::a|_=>a
def dX(P:Program)(C:Spec)(c:L Oper)(K:FN->HN->Prop)(d:Nat):L DK->L Oper->Nat->FN->HN->L HN->L kw->Prop
 |[],[],_,e,f,b,g=>zo P b (N b-1) g/\K e f
 |k::h,o::r,j,e,f,b,g=>match lg c o.guard e with
  |true=>(match k with
   |.alloc=>(match bE P o.op e (f.at_ (d+j)) with|.ok v a=>dX P C c K d h r (j+1) (be o.dst v e) (a.at_ f.h) b g|_=>False)
   |.az=>mY (Sd P c d j C) (bE P o.op e f) f o.dst (λi a=>dX P C c K d h r (j+1) i a (a::b) g) e
   |.p=>(match bE P o.op e f with|.ok v a=>dX P C c K d h r (j+1) (be o.dst v e) a b g|_=>False)
   |.read l i=>(match bE P o.op e f with|.ok v a=>dX P C c K d h r (j+1) (be o.dst v e) a b (⟨o.op,e,v,l,i⟩::g)|_=>False))
  |false=>dX P C c K d h r (j+1) (be o.dst bp e) f (yy k f b) g
 |_,_,_,_,_,_,_=>False
def nu:L DK->Bool
 |[]=>false
 |.alloc::_=>true
 |_::r=>nu r
def Bt(P:Program)(C:Spec)(a:L DK)(b:L Oper)(K:FN->HN->Prop)(d:FN)(c:HN):Prop:=
 dX P C b K c.h a b 0 d (c.at_ (if nu a then c.h+N b else c.h)) [c.at_ (if nu a then c.h+N b else c.h)] []
def vB(w:FN->HN->Prop)(K:jn):jn:=λe b a=>match e with|.normal=>w b a|.exit i=>K (.exit i) b a|.ret=>K .ret b a
def Ct(i:Nat)(K:jn):jn:=λe b a=>match e with|.normal=>K .normal b a|.exit j=>if j=i then K .normal b a else K (.exit j) b a|.ret=>K .ret b a
def tM(c:AV)(a b:FN->HN->Prop)(e:FN)(d:HN):Prop:=match c with|.l true=>a e d|.l false=>b e d|_=>False
def sP(w:jn->FN->HN->Prop):Nat->jn->FN->HN->Prop
 |0,_,_,_=>False
 |m+1,K,b,a=>w (vB (sP w m K) K) b a
abbrev bW:=Nat->L DK
def dQ(P:Program)(C:Spec)(PT:bW):Code->jn->FN->HN->Prop
 |.skip,K=>K .normal
 |.region _ ops false,K=>wpOps P C ops.toList ops.toList (K .normal)
 |.region id ops true,K=>Bt P C (PT id) ops.toList (K .normal)
 |.seq a b,K=>dQ P C PT a (vB (dQ P C PT b K) K)
 |.cond c a b,K=>λd e=>tM (au d c) (dQ P C PT a K) (dQ P C PT b K) d e
 |.block i b,K=>dQ P C PT b (Ct i K)
 |.loop b,K=>λd e=>∃m,sP (dQ P C PT b) m K d e
 |.exit i,K=>K (.exit i)
 |.ret,K=>K .ret
 |_,_=>λ_ _=>False
def FG(a b:DK):Bool:=match a,b with
 |.alloc,.alloc=>true|.az,.az=>true|.p,.p=>true
 |.read a b,.read c d=>Nat.beq a c&&Nat.beq b d
 |_,_=>false
def uV(P:Program)(a:L Oper)(b:L Nat)(j:Nat)(o:Oper):DK:=match cls P o.op with
 |.alloc=>.alloc
 |.az=>.az
 |.read=>if calm P a b j then .p else .read (yz P a b j) (As P a b j)
 |.p=>.p
def Bb(P:Program)(a:L Oper)(b:L Nat):L DK->L Oper->Nat->Bool
 |[],[],_=>true
 |k::c,o::r,j=>FG k (uV P a b j o)&&Bb P a b c r (j+1)
 |_,_,_=>false
def Q0(n:Nat)(d:Option Nat):Bool:=match d with|none=>true|some d=>Nat.ble (d+1) n
def G4(P:Program)(n:Nat)(o:Oper):Bool:=o.op.operands.toList.all (Gk P)&&Q0 n o.dst
def acj(c:Operand):Bool:=match c with|.tmp _=>true|.const (.bool _)=>true|_=>false
def wS(P:Program)(n:Nat)(PT:bW):Code->Bool
 |.region id ops d=>ops.toList.all (G4 P n)&&(match d with|true=>DS P ops&&Bb P ops.toList (kR ops.toList) (PT id) ops.toList 0|false=>true)
 |.seq a b=>wS P n PT a&&wS P n PT b
 |.cond c a b=>acj c&&(wS P n PT a&&wS P n PT b)
 |.block _ b=>wS P n PT b
 |.loop b=>wS P n PT b
 |_=>true
end
end
section
section
theorem gP{a b:Nat}:Nat.ble a b=true↔a<=b:=⟨gf,Oh⟩
theorem beq_true{a b:Nat}:Nat.beq a b=true↔a=b:=⟨Nat.eq_of_beq_eq_true,λh=>by rw[h];exact Nat.beq_refl b⟩
theorem ou(k c:IntKind):iT k c=true↔k=c:=by cases k<;>cases c<;>decide
theorem GH(k:IntKind):0<br k:=by cases k<;>decide
theorem AW(k:IntKind):br k=2^k.bits:=by cases k<;>rfl
theorem abc(k:IntKind):I9 k=k.bits:=by cases k<;>rfl
theorem sT{k:IntKind}{n:Nat}:cT k n=true↔n<lM k:=gP
theorem aej(k:IntKind):lM k<=br k:=by cases k<;>decide
theorem qA{k:IntKind}{n:Nat}(h:cT k n=true):bg k n=(n:Int):=ae h
theorem vC(k:IntKind)(a:Nat):∃c:Int,bg k a=a+br k*c:=by
 unfold bg;split
 .exact⟨0,by simp⟩
 .exact⟨-1,Y⟩
theorem Lq{n:Nat}(h:n<256):bg .u8 n=(n:Int):=qA (sT.2 h)
variable (k:IntKind)(a b:Nat)
theorem Zt{r:Nat}(h:r<br k):k.wrap r=bg k r:=by
 have e:((r:Int)%2^k.bits)=r:=by rw[show(2:Int)^k.bits=(br k:Nat) by rw[AW];simp];exact ZG Y Y
 unfold IntKind.wrap bg cT;rw[e];cases k<;>simp[IntKind.signed,IntKind.bits,lM,br,gP] at h|-<;>omega
theorem wz{z:Int}{X:Nat}(h:∃c:Int,z=X+br k*c):k.wrap z=bg k (X%br k)/\X%br k<br k:=by
 have d:=BZ X (GH k);obtain⟨c,rfl⟩:=h;refine⟨?_,d⟩;rw[<-Zt k d]
 have:(2:Int)^k.bits=(br k:Nat):=by rw[AW];simp
 unfold IntKind.wrap;rw[this,ZF];simp
theorem wn{z:Int}{r:Nat}(h:r<br k)(e:∃c:Int,z=r+br k*c):k.wrap z=bg k r:=by
 have:=(wz k e).1
 rwa [Ew h] at this
theorem DW(z:Int):res k z<br k:=by
 have h:=GH k
 have:=Int.emod_lt_of_pos z (show(0:Int)<br k by omega)
 have:=Int.emod_nonneg z (show(br k:Int)≠0 by omega)
 unfold res;omega
theorem Hp(z:Int):k.wrap z=bg k (res k z)/\res k z<br k:=by
 have h:=GH k;refine⟨wn k (DW k z) ⟨z/br k,?_⟩,DW k z⟩
 have:=Int.emod_nonneg z (show(br k:Int)≠0 by omega)
 have:=Int.emod_add_mul_ediv z (br k)
 unfold res;omega
theorem Dl{r:Nat}(h:r<br k):k.wrap (r:Int)=bg k r/\r<br k:=⟨Zt k h,h⟩
theorem Yk{a b:Nat}(ha:a<br k)(hb:b<br k)(h:bg k a=bg k b):a=b:=by
 cases k<;>simp[bg,cT,lM,br] at ha hb h<;>split at h<;>split at h<;>omega
variable {k a b}(ha:a<br k)(hb:b<br k)
include ha
theorem acm(c:IntKind):c.wrap (bg k a)=bg c (if cT k a then a%br c else res c (bg k a))/\(if cT k a then a%br c else res c (bg k a))<br c:=by
 split
 .rename_i h;rw[qA h];exact wz c ⟨0,by simp⟩
 .exact Hp c _
theorem af6:k.wrap (0-bg k a)=bg k ((br k-a)%br k)/\(br k-a)%br k<br k:=by
 let⟨c,e⟩:=vC k a;exact wz k ⟨-c-1,by rw[e,Int.ofNat_sub (zU ha)];grind⟩
theorem aiL(n:Nat):k.wrap (bg k a*2^n)=bg k (MS k a n)/\MS k a n<br k:=by
 let⟨c,e⟩:=vC k a;exact wz k ⟨c*2^n,by rw[e];simp;grind⟩
theorem za:(BitVec.ofInt k.bits (bg k a)).toNat=a:=by
 let⟨c,e⟩:=vC k a;rw[BitVec.toNat_ofInt,<-AW,e,ZF,ZG Y Y];rfl
theorem ajZ:k.wrap ((BitVec.ofInt k.bits (if k.signed then -1 else k.max) ^^^ BitVec.ofInt k.bits (bg k a)).toNat:Int)=bg k (br k-1-a)/\br k-1-a<br k:=by
 have c:BitVec.ofInt k.bits (if k.signed then -1 else k.max)=BitVec.allOnes k.bits:=by cases k<;>rfl
 rw[c,BitVec.allOnes_xor,BitVec.toNat_not,za ha,<-AW];exact Dl k Y
theorem aiM(n:Nat):(bg k a).fdiv (2^n)=bg k (HJ k a n)/\HJ k a n<br k:=by
 have c:(0:Int)<2^n:=Int.pow_pos Y;unfold HJ;split
 .rename_i h;have e:=sT.1 h;have f:a/2^n<=a:=Ok _ _;rw[qA h,qA (sT.2 (by omega)),ZH _ Y];exact⟨by simp,Y⟩
 .rename_i h;refine⟨?_,DW k _⟩;rw[<-(Hp k _).1];have d:-(br k:Int)<=bg k a/\bg k a<0:=by unfold bg;rw[ac h];omega
  rw[ZH _ Y];have g:bg k a<=bg k a/2^n:=Int.le_ediv_of_mul_le c (by
   have:=Int.mul_le_mul_of_nonpos_left (a:=bg k a) Y (show(1:Int)<=2^n from c)
   omega)
  have i:bg k a/2^n<0:=Int.ediv_neg_of_neg_of_pos d.2 c;generalize bg k a/2^n=z at*;have l:lM k<=a:=by rw[sT] at h;omega
  have j:bg k a=a-br k:=ac h;rw[wn k (r:=(z+br k).toNat) Y ⟨-1,Y⟩];unfold bg;rw[ac (by rw[sT];omega)];omega
include hb
theorem aaw:k.wrap (bg k a+bg k b)=bg k ((a+b)%br k)/\(a+b)%br k<br k:=by
 let⟨c,e⟩:=vC k a;let⟨d,f⟩:=vC k b;exact wz k ⟨c+d,by rw[e,f];grind⟩
theorem ai6:k.wrap (bg k a-bg k b)=bg k ((a+(br k-b))%br k)/\(a+(br k-b))%br k<br k:=by
 let⟨c,e⟩:=vC k a;let⟨d,f⟩:=vC k b;exact wz k ⟨c-d-1,by rw[e,f,Int.natCast_add,Int.ofNat_sub (zU hb)];grind⟩
theorem afV:k.wrap (bg k a*bg k b)=bg k ((a*b)%br k)/\(a*b)%br k<br k:=by
 let⟨c,e⟩:=vC k a;let⟨d,f⟩:=vC k b;exact wz k ⟨c*b+a*d+br k*c*d,by rw[e,f,NQ];grind⟩
theorem ahM:k.wrap ((bg k a).tdiv (bg k b))=bg k (vv k a b)/\vv k a b<br k:=by
 unfold vv;split
 .rename_i h;let⟨c,d⟩:=iY.1 h;have e:=Eu (Ok a b) ha;rw[qA c,qA d,Int.tdiv_eq_ediv_of_nonneg Y,<-Int.natCast_ediv];exact Dl k e
 .exact Hp k _
theorem ah8:(bg k a).tmod (bg k b)=bg k (vx k a b)/\vx k a b<br k:=by
 unfold vx;split
 .rename_i h;let⟨d,e⟩:=iY.1 h;have i:a%b<=a:=Nat.mod_le _ _;have j:=sT.1 d;rw[qA d,qA e,Int.tmod_eq_emod_of_nonneg Y,<-Int.natCast_emod,qA (sT.2 Y)];exact⟨R,Y⟩
 .refine⟨?_,DW k _⟩;rw[<-(Hp k _).1];have d:=Int.natAbs_tmod (bg k a) (bg k b);have e:=Nat.mod_le (bg k a).natAbs (bg k b).natAbs;have i:0<=bg k a->0<=(bg k a).tmod (bg k b):=λh=>Int.tmod_nonneg _ h;have j:bg k a<=0->(bg k a).tmod (bg k b)<=0:=λh=>by have:=Int.tmod_nonneg (a:=-(bg k a)) (bg k b) Y;rw[Int.neg_tmod] at this;omega
  generalize (bg k a).tmod (bg k b)=z at*;have c:bg k a=if cT k a then(a:Int) else a-br k:=R
  have f:=@sT k a;have l:=aej k;have m:lM k=br k\/2*lM k=br k:=by cases k<;>decide
  by_cases n:0<=z
  .rw[wn k (r:=z.toNat) (by split at c<;>omega) ⟨0,Y⟩,qA (sT.2 (by split at c<;>rename_i g<;>rw[f] at g<;>omega))];omega
  .rw[wn k (r:=(z+br k).toNat) Y ⟨-1,by split at c<;>omega⟩];unfold bg;rw[ac (by rw[sT];split at c<;>rename_i g<;>rw[f] at g<;>omega)];split at c<;>omega
theorem Ja(f:{w:Nat}->BitVec w->BitVec w->BitVec w)(g:Nat->Nat->Nat)(c:∀(w:Nat) (x y:BitVec w),(f x y).toNat=g x.toNat y.toNat):
  k.wrap ((f (BitVec.ofInt k.bits (bg k a)) (BitVec.ofInt k.bits (bg k b))).toNat:Int)=bg k (g a b)/\g a b<br k:=by
 have d:=c k.bits (BitVec.ofInt k.bits (bg k a)) (BitVec.ofInt k.bits (bg k b));have c:=(f (BitVec.ofInt k.bits (bg k a)) (BitVec.ofInt k.bits (bg k b))).isLt;rw[d,za ha,za hb,<-AW] at c;rw[d,za ha,za hb];exact Dl k c
theorem aaM:k.wrap ((BitVec.ofInt k.bits (bg k a) &&& ~~~ BitVec.ofInt k.bits (bg k b)).toNat:Int)=bg k (a &&& (br k-1-b))/\a &&& (br k-1-b)<br k:=by
 have c:a &&& (br k-1-b)<=a:=Nat.and_le_left;rw[BitVec.toNat_and,BitVec.toNat_not,za ha,za hb,<-AW];exact Dl k Y
theorem Dd:de (bg k a<bg k b)=fU k a b:=by
 unfold fU bg;cases c:cT k a<;>cases d:cT k b<;>simp[Oi]<;>first|omega|(rw[rB];simp[Oi];try omega)
theorem FK:(bg k a==bg k b)=(a==b):=by
 rw[rB];simp only[zX];exact⟨Yk k ha hb,λh=>by rw[h]⟩
end
end
end Go.Proofs.YtehahhggpdhieaaGreatDoor
