/- Lemmas of the walk of EmitKinds are proved. Conditions: none. -/
import Derived.Test.YtehahhggpdhieaaGreatDoorX36
namespace Go.Proofs.YtehahhggpdhieaaGreatDoor
set_option maxRecDepth 100000
set_option maxHeartbeats 32000000
set_option linter.all false
section
variable {g:AV->HN->Prop}{d:HN}{i:Nat}
def Nc(p:PD)(a:Nat)(i:aQ):Bool:=if i.o=0 then has p.s i.b else if i.o=2 then has p.y i.b else if i.o=3 then has p.y i.a else if i.o=4 then has p.ins i.b else if i.o=5 then has p.o i.a else if i.o=19\/i.o=20 then ru p a i.a else true
def LZ(p:PD)(i:aQ):Bool:=if i.o=3\/i.o=5\/19<=i.o then true else has p.an i.a
def LC(p:PD)(a:Nat)(i:aQ):Bool:=de (i.o<21)&&((mA i).all (has p.an)&&(LZ p i&&Nc p a i))
def afX(p:PD)(f:Nat)(i:aQ):LC p f i=px p f i:=by
 let⟨d,a,b,c⟩:=i;unfold LC px mA LZ Nc;dsimp only;by_cases e:d<21
 .rw[aB e,pX]
  have:d=0\/d=1\/d=2\/d=3\/d=4\/d=5\/d=6\/d=7\/d=19\/d=20\/(8<=d/\d<=18):=Y
  rcases this with rfl|rfl|rfl|rfl|rfl|rfl|rfl|rfl|rfl|rfl|h
  all_goals try (simp[Bool.and_comm];done)
  rw[ac (by omega),ae h,ac (by omega),ac (by omega),ac (by omega),ac (by omega),ac (by omega),ac (by omega),ac (by omega),ac (by omega),ac (by omega),ac (by omega),ac (by omega),ac (by omega),ac (by omega),ac (by omega),ac (by omega),aB h];simp only[uA,vK];cases has p.an a<;>cases has p.an b<;>cases has p.an c<;>rfl
 .rw[aA e,pW,ac (by omega),ac (by omega),ac (by omega),ac (by omega),ac (by omega),ac (by omega),ac (by omega),ac (by omega),aA (by omega)];rfl
def qt(b:HN)(c d e:Nat)(y:AV)(l:L Nat)(s:L Nat)(m:Nat)(a:FN)(f:HN):Prop:=f=b/\∃i,m=N l-i/\i<=N l/\a 1=II e/\a 2=.p c 0/\a 5=.p d 0/\a 6=y/\a 7=II i/\∀x∈l.take i,has s x=true
def aaI{q:Nat->Bool}{l:L Nat}(h:∀x∈l.take i,q x=true)(b:i<N l)(c:q l[i]=true):∀x∈l.take (i+1),q x=true:=by
 intro x a;rw[dt b,bA,dM] at a;rcases a with a|rfl
 .exact h x a
 .exact c
def ahZ(i:aQ):N (mA i)<=2:=by
 unfold mA;split
 .simp
 .split<;>simp
def ah0{i:aQ}(a:i.b<18446744073709551616/\i.c<18446744073709551616):∀n∈mA i,n<18446744073709551616:=by
 unfold mA;intro n a;split at a
 .simp at a;omega
 .split at a
  .simp at a;omega
  .cases a
theorem afY{U:HN}{z:PV}{p:PD}{pc:Nat}{i:aQ}{Q:AV->HN->Prop}(hp:xP U z p)(hf:EJ p)(hpc:pc<p.j.length)(hi0:p.j[pc]=i)
  (h:∀U',ai U.h U U'->Q (.l (px p pc i)) U'):∃v U',aq Tryz.prog 42 [.g z.cells,.i .i64 pc] U v U'/\Q v U':=by
 refine cf Wj Tryz.func42 ?_
 have l1:=pg hp.ins hf.ins.1
 have l2:=pg hp.o hf.o.1
 have l3:=pg hp.an hf.an.1
 have l4:=pg hp.y hf.y.1
 have l5:=pg hp.s hf.s.1
 have l6:=Xd hp.j hf.j.1
 have b6:=hf.j.1
 obtain⟨bc,offc,capc,roc,rowc,z6e,hbc,hbcn,hlc,hrc⟩:=aK.at (i:=pc) hp.j (by simpa using hpc)
 simp only[aC,kM,hi0] at z6e hrc
 have hsz:(aQ.cells i).length=4:=rfl
 have fb:=hf.j.2 _ (aU hpc)
 rw[hi0] at fb
 have hnF:=afX p pc i
 unfold LC at hnF
 have hrl:=ahZ i
 have hrlt:=ah0 (i:=i) ⟨fb.2.2.1,fb.2.2.2⟩
 obtain⟨op,a,b,c⟩:=i
 have hcs:aQ.cells ⟨op,a,b,c⟩=[.i .i64 op,.i .i64 a,.i .i64 b,.i .i64 c]:=rfl
 rw[hcs] at hrc
 dsimp only at fb hnF
 obtain⟨f0,f1,f2,f3⟩:=fb
 have E1:ai U.h U (((U.X (.E false [z.z,z.a,z.b,z.c,z.d,z.e])).X (.E false [.i .i64 0,.i .i64 0,.i .i64 0,.i .i64 0])).put (U.h+1) (.E false [.i .i64 op,.i .i64 a,.i .i64 b,.i .i64 c])):=cO (ap (ap (.refl _ _)))
 have n1:(((U.X (.E false [z.z,z.a,z.b,z.c,z.d,z.e])).X (.E false [.i .i64 0,.i .i64 0,.i .i64 0,.i .i64 0])).put (U.h+1) (.E false [.i .i64 op,.i .i64 a,.i .i64 b,.i .i64 c])).h=U.h+2:=rfl
 have x1:(((U.X (.E false [z.z,z.a,z.b,z.c,z.d,z.e])).X (.E false [.i .i64 0,.i .i64 0,.i .i64 0,.i .i64 0])).put (U.h+1) (.E false [.i .i64 op,.i .i64 a,.i .i64 b,.i .i64 c])).f U.h=.E false z.cells:=by
  show(if U.h=U.h+1 then _ else if U.h=U.h+1 then _ else if U.h=U.h then _ else _)=_;rw[ac (by omega),ac (by omega),ae rfl]
 have x2:(((U.X (.E false [z.z,z.a,z.b,z.c,z.d,z.e])).X (.E false [.i .i64 0,.i .i64 0,.i .i64 0,.i .i64 0])).put (U.h+1) (.E false [.i .i64 op,.i .i64 a,.i .i64 b,.i .i64 c])).f (U.h+1)=.E false [.i .i64 op,.i .i64 a,.i .i64 b,.i .i64 c]:=by
  show(if U.h+1=U.h+1 then _ else _)=_;rw[ae rfl]
 simp(disch:=omega)only[go_sem,z6e,hbc,hrc]
 rw[<-z6e]
 generalize (((U.X (.E false [z.z,z.a,z.b,z.c,z.d,z.e])).X (.E false [.i .i64 0,.i .i64 0,.i .i64 0,.i .i64 0])).put (U.h+1) (.E false [.i .i64 op,.i .i64 a,.i .i64 b,.i .i64 c]))=U1 at*
 clear hbc hrc
 refine al (abT f0 λn w U2 E2 hnn hw=>?_)
 have E12:=aM E1 E2
 have x12:=(E2.2 _ (by omega)).t x1
 have x22:=(E2.2 _ (by omega)).t x2
 have n2:=E2.1
 by_cases h21:op<21
 .obtain⟨n,rfl⟩:∃n',n=n'+1:=⟨n-1,by have:¬n=0:=λe=>hnn.1 e h21;omega⟩
  have hse:aI (n+1) w 0 0=false:=rfl
  simp(disch:=omega)only[go_sem,hse,x22]
  refine al (hcs▸XC (i:=⟨op,a,b,c⟩) f0 λv3 U3 E3 r3=>?_)
  have E13:=aM E12 E3
  have x13:=(E3.2 _ (by omega)).t x12
  have x23:=(E3.2 _ (by omega)).t x22
  have n3:=E3.1
  simp(disch:=omega)only[go_sem]
  have l7:=pg r3 (by omega)
  refine aT (qt U3 U.h (U.h+1) pc v3 (mA ⟨op,a,b,c⟩) p.an) (mA ⟨op,a,b,c⟩).length ⟨rfl,0,by omega,by omega,rfl,rfl,rfl,rfl,rfl,by simp⟩ ?_
  rintro m O U4 ⟨rfl,k,hm,hk,p1,p2,p5,p6,p7,hall⟩
  by_cases hlt:k<(mA ⟨op,a,b,c⟩).length
  .obtain⟨bq,offq,capq,roq,rowq,v3e,hbq,hbqn,hrq⟩:=r3.at hlt
   rw[v3e] at p6
   simp(disch:=omega)only[go_sem,p2,p6,p7,x13,hbq,hrq,l3]
   refine bL ⟨_,_,yL _ p.an _ (hrlt _ (aU hlt)) hf.an.1,?_⟩
   cases hx:has p.an (mA ⟨op,a,b,c⟩)[k] with
   |false=>
    have hna:(mA ⟨op,a,b,c⟩).all (has p.an)=false:=by
     cases hq:(mA ⟨op,a,b,c⟩).all (has p.an) with
     |false=>rfl
     |true=>rw[lX] at hq;rw[hq _ (aU hlt)] at hx;cases hx
    rw[hna,pW,El] at hnF
    simp(disch:=omega)only[go_sem,gv]
    have:=h _ E13
    rw[<-hnF] at this
    exact this
   |true=>
    simp(disch:=omega)only[go_sem,eI,p7]
    exact⟨_,by omega,rfl,k+1,rfl,by omega,p1,p2,p5,v3e▸p6,rfl,aaI hall hlt hx⟩
  have hall2:(mA ⟨op,a,b,c⟩).all (has p.an)=true:=by
   rw[lX];intro x hx;exact hall x (by rw[iM (by omega)];exact hx)
  have hke:k=(mA ⟨op,a,b,c⟩).length:=by omega
  rw[hall2,aB h21,pX,pX] at hnF
  unfold LZ Nc at hnF
  dsimp only at hnF
  have key:∀{v:Bool},v=px p pc ⟨op,a,b,c⟩->Q (.l v) U4:=λe=>by rw[e];exact h _ E13
  clear h
  subst hke
  by_cases q3:op=3
  .subst q3
   simp(disch:=omega)only[go_sem,p2,p5,p6,p7,x13,x23,l4,l7]
   refine al ⟨_,_,yL _ p.y _ f1 hf.y.1,?_⟩
   simp(disch:=omega)only[go_sem]
   exact key hnF
  by_cases q5:op=5
  .subst q5
   simp(disch:=omega)only[go_sem,p2,p5,p6,p7,x13,x23,l2,l7]
   refine al ⟨_,_,yL _ p.o _ f1 hf.o.1,?_⟩
   simp(disch:=omega)only[go_sem]
   exact key hnF
  by_cases q19:op=19
  .subst q19
   have hnF:ru p pc a=px p pc ⟨19,a,b,c⟩:=hnF
   unfold ru at hnF
   by_cases t0:9223372036854775807<a
   .have hl:=TG (a:=pc) (by omega) t0
    rw[aA (show¬a<=p.j.length by omega),El] at hnF
    simp(disch:=omega)only[go_sem,p1,p5,p6,p7,x23,l7,hl]
    exact key hnF
   by_cases t1:pc<a
   .rw[aB t1,pX] at hnF
    by_cases t2:a<=p.j.length
    .rw[aB t2] at hnF
     simp(disch:=omega)only[go_sem,p1,p2,p5,p6,p7,x13,x23,l6,l7,gv]
     exact key hnF
    .rw[aA t2] at hnF
     simp(disch:=omega)only[go_sem,p1,p2,p5,p6,p7,x13,x23,l6,l7,eI]
     exact key hnF
   .rw[aA t1,pW] at hnF
    simp(disch:=omega)only[go_sem,p1,p5,p6,p7,x23,l7]
    exact key hnF
  by_cases q20:op=20
  .subst q20
   have hnF:ru p pc a=px p pc ⟨20,a,b,c⟩:=hnF
   unfold ru at hnF
   by_cases t0:9223372036854775807<a
   .have hl:=TG (a:=pc) (by omega) t0
    rw[aA (show¬a<=p.j.length by omega),El] at hnF
    simp(disch:=omega)only[go_sem,p1,p5,p6,p7,x23,l7,hl]
    exact key hnF
   by_cases t1:pc<a
   .rw[aB t1,pX] at hnF
    by_cases t2:a<=p.j.length
    .rw[aB t2] at hnF
     simp(disch:=omega)only[go_sem,p1,p2,p5,p6,p7,x13,x23,l6,l7,gv]
     exact key hnF
    .rw[aA t2] at hnF
     simp(disch:=omega)only[go_sem,p1,p2,p5,p6,p7,x13,x23,l6,l7,eI]
     exact key hnF
   .rw[aA t1,pW] at hnF
    simp(disch:=omega)only[go_sem,p1,p5,p6,p7,x23,l7]
    exact key hnF
  rw[ac (show¬(op=3\/op=5\/19<=op) by omega)] at hnF
  simp(disch:=omega)only[go_sem,p2,p5,p6,p7,x13,x23,l3,l7,gv]
  refine al ⟨_,_,yL _ p.an _ f1 hf.an.1,?_⟩
  cases hx:has p.an a with
  |false=>
   rw[hx,pW] at hnF
   simp(disch:=omega)only[go_sem,gv]
   exact key hnF
  |true=>
  rw[hx,pX] at hnF
  by_cases q0:op=0
  .subst q0
   simp(disch:=omega)only[go_sem,p2,p5,x13,x23,l5,eI]
   refine al ⟨_,_,yL _ p.s _ f2 hf.s.1,?_⟩
   simp(disch:=omega)only[go_sem]
   exact key hnF
  by_cases q2:op=2
  .subst q2
   simp(disch:=omega)only[go_sem,p2,p5,x13,x23,l4,eI]
   refine al ⟨_,_,yL _ p.y _ f2 hf.y.1,?_⟩
   simp(disch:=omega)only[go_sem]
   exact key hnF
  by_cases q4:op=4
  .subst q4
   simp(disch:=omega)only[go_sem,p2,p5,x13,x23,l1,eI]
   refine al ⟨_,_,yL _ p.ins _ f2 hf.ins.1,?_⟩
   simp(disch:=omega)only[go_sem]
   exact key hnF
  rw[ac q0,ac q2,ac q3,ac q4,ac q5,ac (by omega)] at hnF
  simp(disch:=omega)only[go_sem,p5,x23,eI]
  exact key hnF
 .have hn0:=hnn.2 h21
  have hw0:=hw hn0
  subst hn0 hw0
  have hse:aI 0 0 0 0=true:=rfl
  rw[aA h21,pW] at hnF
  simp(disch:=omega)only[go_sem,hse]
  have:=h U2 E12
  rw[<-hnF] at this
  exact this
variable {y:AV}
def Bh{l:L Nat}(h:ns .i64 d y l)(j:0<N l):∃b a e f c,y=.a b a (N l) e/\d.f b=.E f c/\b<d.h/\∀n,n<N l->c[a+n]?=some (II (l[n]?.getD 0)):=by
 obtain⟨b,a,e,f,c,rfl,i,k,-⟩:=h.at j;refine⟨b,a,e,f,c,R,i,k,λn b=>?_⟩;obtain⟨a,a,a,a,a,e,f,-,g⟩:=h.at b;cases e;rw[i] at f;cases f;rw[g];simp[b]
theorem adS{U:HN}{z:PV}{p:PD}{pc:Nat}{i:aQ}{Q:AV->HN->Prop}(hp:xP U z p)(hf:EJ p)(ht:px p pc i=true)(hk:wI p i=true)(h:∀U',ai U.h U U'->Q (.l true) U'):∃v U',aq Tryz.prog 43 [.g z.cells,.g i.cells] U v U'/\Q v U':=by
 obtain⟨hop,hr,ha,-⟩:=YK ht
 obtain⟨op,a,b,c⟩:=i
 refine cf Wk Tryz.func43 ?_
 have h1:=hf.ins.1
 have h2:=hf.o.1
 have h3:=hf.an.1
 have h4:=hf.y.1
 have h5:=hf.s.1
 have E:ai U.h U ((U.X (.E false z.cells)).X (.E false (aQ.cells ⟨op,a,b,c⟩))):=ap (ap (.refl _ _))
 have hq:=h _ E
 have hb:((U.X (.E false z.cells)).X (.E false (aQ.cells ⟨op,a,b,c⟩))).f U.h=.E false z.cells:=by simp(disch:=omega)only[go_sem]
 have hb2:((U.X (.E false z.cells)).X (.E false (aQ.cells ⟨op,a,b,c⟩))).f (U.h+1)=.E false [.i .i64 op,.i .i64 a,.i .i64 b,.i .i64 c]:=by simp(disch:=omega)only[go_sem];rfl
 have hz:=hp.ext E
 simp(disch:=omega)only[go_sem,show aQ.cells ⟨op,a,b,c⟩=[.i .i64 op,.i .i64 a,.i .i64 b,.i .i64 c] from rfl] at hb hb2 hz hq|-
 generalize ((U.X _).X _)=U1 at*
 by_cases q:op=20
 .subst q
  simp(disch:=omega)only[go_sem]
  exact hq
 dsimp only at hop ha
 obtain⟨b3,o3,c3,r3,w3,e3,f3,n3,g3⟩:=Bh hz.an (by
  by_cases g:op=3\/op=5\/op=19
  .have:=hr b (by rcases g with rfl|rfl|rfl<;>simp[iK])
   omega
  .have:=ha (by omega) (by omega) (by omega)
   omega)
 obtain rfl|rfl|rfl|rfl|rfl|rfl|rfl|rfl|rfl|rfl|rfl|rfl|rfl|rfl|rfl|rfl|rfl|rfl|rfl|rfl:op=0\/op=1\/op=2\/op=3\/op=4\/op=5\/op=6\/op=7\/op=8\/op=9\/op=10\/op=11\/op=12\/op=13\/op=14\/op=15\/op=16\/op=17\/op=18\/op=19:=by omega
 all_goals simp[px,wI,kC,has,ru] at ht hk
 .obtain⟨b4,o4,c4,r4,w4,e4,f4,n4,g4⟩:=Bh hz.s (by omega)
  by_cases v:p.an[a]?.getD 0=2
  .simp(disch:=omega)only[go_sem,e3,f3,g3,v]
   exact hq
  by_cases v2:p.s[b]?.getD 0=0
  .simp(disch:=omega)only[go_sem,e3,f3,g3,e4,f4,g4,v,v2]
   exact hq
  have v3:=(hk.resolve_left v).resolve_left v2
  simp(disch:=omega)only[go_sem,e3,f3,g3,e4,f4,g4,v,v3]
  exact hq
 rotate_left
 .obtain⟨b4,o4,c4,r4,w4,e4,f4,n4,g4⟩:=Bh hz.y (by omega)
  simp(disch:=omega)only[go_sem,e3,f3,g3,e4,f4,g4,hk]
  exact hq
 .obtain⟨b4,o4,c4,r4,w4,e4,f4,n4,g4⟩:=Bh hz.y (by omega)
  simp(disch:=omega)only[go_sem,e3,f3,g3,e4,f4,g4,hk]
  exact hq
 .obtain⟨b4,o4,c4,r4,w4,e4,f4,n4,g4⟩:=Bh hz.ins (by omega)
  simp(disch:=omega)only[go_sem,e3,f3,g3,e4,f4,g4,hk]
  exact hq
 .obtain⟨b4,o4,c4,r4,w4,e4,f4,n4,g4⟩:=Bh hz.o (by omega)
  simp(disch:=omega)only[go_sem,e3,f3,g3,e4,f4,g4,hk]
  exact hq
 all_goals
  simp(disch:=omega)only[go_sem,e3,f3,g3,hk,eI,gv]
  exact hq
end
section
variable {g:AV->HN->Prop}{d e:HN}{b h i:Nat}
def fj(l:L Bool):L AV:=l.map .l
def Cu(l:L Bool):N (fj l)=N l:=aC _
def Ff{l:L Bool}(h:i<N l):(fj l)[i]?=some (.l (l.getD i false)):=by
 unfold fj;rw[pF,bM h,cA,bM h];rfl
def Jc(l:L Bool)(i:Nat)(b:Bool):(fj l).set i (.l b)=fj (l.set i b):=by unfold fj;rw[Iu]
def Ps{f:Cp}{l:L Bool}(g:d.f b=LL (fj l))(a:b<d.h)(a:N l<=1099511627776):
  ∃v a,gj 1 1 (.a d.h 0 0 (.k 0)) (.a b 0 (N l) f) (d.X (LL []))=.ok v a/\(∃c e,v=.a c 0 (N l) e/\d.h<=c/\c<a.h/\a.f c=LL (fj l))/\ai d.h d a:=by
 have a:=Cu l;by_cases a:N l=0
 .obtain rfl:l=[]:=ff a;refine⟨.a d.h 0 0 (.k 0),d.X (LL []),?_,⟨d.h,.k 0,R,ak _,bJ _,by show(if d.h=d.h then _ else _)=_;rw[ae R];rfl⟩,ap (.refl _ _)⟩;simp(disch:=omega)only[go_sem,oR,hN]
 .have a:(d.X (LL [])).f b=LL (fj l):=by show(if b=d.h then _ else _)=_;rw[ac (by omega)];exact g
  refine⟨.a (d.h+1) 0 (N l) (.B 1),(d.X (LL [])).X (LL (fj l)),?_,⟨d.h+1,.B 1,R,iC _,bJ _,by show(if d.h+1=d.h+1 then _ else _)=_;rw[ae R]⟩,ap (ap (.refl _ _))⟩;simp(disch:=omega)only[go_sem,oR,g,EY]
def abf(b:HN)(c d:AV)(A:Nat)(l m:L Bool)(k:Nat)(a:FN)(e:HN):Prop:=∃i,k=N l-i/\i<=N l/\a 0=c/\a 1=d/\a 5=.a A 0 (N l) (.k (N l))/\a 6=II i/\e=b.put A (LL (fj ((List.zipWith and l m).take i++List.replicate (N l-i) false)))
def Ii{l m:L Bool}(h:N l=N m):N (List.zipWith and l m)=N l:=by rw[Er];omega
def aj0{l m:L Bool}(h:N l=N m)(a:i<N l):((List.zipWith and l m).take i++List.replicate (N l-i) false).set i (l.getD i false&&m.getD i false)=(List.zipWith and l m).take (i+1)++List.replicate (N l-(i+1)) false:=by
 have b:N ((List.zipWith and l m).take i)=i:=by rw[dW,Ii h];omega
 rw[List.set_append,ac (by omega),b,rH,show N l-i=N l-(i+1)+1 by omega,BV,zS,dt (by rw[Ii h];exact a),dC,List.getElem_zipWith];rw[cA,bM a,cA,bM (by omega)];rfl
def abh{f:Cp}{l:L Bool}(k:d.f b=LL (fj l))(i:b<d.h)(m:N l<=1099511627776)
  (h:∀b f a,d.h<=b->b<a.h->a.f b=LL (fj l)->ai d.h d a->g (.a b 0 (N l) f) a):∃v a,aq Tryz.prog 46 [.e,.a b 0 (N l) f] d v a/\g v a:=by
 refine c0 Tryz.func46 ?_;obtain⟨v,a,e,⟨c,a,rfl,a,c,j⟩,E⟩:=Ps (f:=f) k i m;simp(disch:=omega)only[go_sem,e];exact h _ _ _ a c j E
def abi{c:Nat}{f j:Cp}{l m:L Bool}(p:d.f b=LL (fj l))(e:b<d.h)(q:d.f c=LL (fj m))(i:c<d.h)(n:N l=N m)(a:N l<=1099511627776)
  (h:∀b f a,d.h<=b->b<a.h->a.f b=LL (fj (List.zipWith and l m))->ai d.h d a->g (.a b 0 (N l) f) a):∃v a,aq Tryz.prog 46 [.a b 0 (N l) f,.a c 0 (N m) j] d v a/\g v a:=by
 refine c0 Tryz.func46 ?_;have k:¬1=0/\N l<=140737488355328:=⟨by decide,Y⟩;have a:=Cu l;have a:=Cu m;have a:List.replicate (N l) (AV.l false)=fj (List.replicate (N l) false):=by unfold fj;rw[Of]
 simp(disch:=omega)only[go_sem,ae k,a];have t:ai d.h d (d.X (LL (fj (List.replicate (N l) false)))):=ap (.refl _ _);have a:(d.X (LL (fj (List.replicate (N l) false)))).f d.h=LL (fj (List.replicate (N l) false)):=by show(if d.h=d.h then _ else _)=_;rw[ae R]
 have k:(d.X (LL (fj (List.replicate (N l) false)))).h=d.h+1:=R;generalize d.X (LL (fj (List.replicate (N l) false)))=r at*;have o:=(t.2 _ e).t p;have u:=(t.2 _ i).t q;refine aT (abf r (.a b 0 (N l) f) (.a c 0 (N m) j) d.h l m) (N l) ⟨0,Y,Y,R,R,R,R,(ahL (by rw[a];rfl)).s⟩ ?_
 rintro k a a ⟨i,a,a,p,w,q,x,rfl⟩
 by_cases k:i<N l
 .have s:=Ff k;have y:=Ff (l:=m) (i:=i) Y;have a:=Cu ((List.zipWith and l m).take i++List.replicate (N l-i) false);have a:N ((List.zipWith and l m).take i++List.replicate (N l-i) false)=N l:=by rw[ay,dW,rD,Ii n];omega
  have a:∀v:Bool,v=(l.getD i false&&m.getD i false)->(fj ((List.zipWith and l m).take i++List.replicate (N l-i) false)).set i (.l v)=fj ((List.zipWith and l m).take (i+1)++List.replicate (N l-(i+1)) false):=λv e=>by rw[Jc,e,aj0 n k]
  cases e:l.getD i false with
  |true=>
   rw[e] at s;simp(disch:=omega)only[go_sem,p,w,q,x,o,u,s,y];exact⟨N l-(i+1),Y,i+1,R,Y,p,w,q,R,by rw[W7,a _ (by rw[e];rfl)]⟩
  |false=>
   rw[e] at s;simp(disch:=omega)only[go_sem,p,q,x,o,s];exact⟨N l-(i+1),Y,i+1,R,Y,p,w,q,R,by rw[W7,a _ (by rw[e];rfl)]⟩
 obtain rfl:i=N l:=Y;simp(disch:=omega)only[go_sem,p,q,x];have a:=Ii n;have a:(List.zipWith and l m).take (N l)++List.replicate 0 false=List.zipWith and l m:=by
  rw[aab,eB,iM (by omega)]
 refine h _ _ _ (ak _) (by show d.h<r.h;omega) ?_ (t.M (.put (ak _)))
 show(if d.h=d.h then _ else _)=_
 rw[ae R];exact dv (λx=>LL (fj x)) a
def aec(i:aQ)(b:Nat)(a:Nat->St)(d:L Bool×L Bool):mP i b a d=(let c:=if i.o≠20 then oD a (b+1) (gy (a (b+1)) d) else a;if i.o=19\/i.o=20 then oD c i.a (gy (c i.a) d) else c):=by
 unfold mP;dsimp only;by_cases f:i.o=20
 .simp[f]
 .by_cases c:i.o=19
  .simp only[c,true_or,vR,ne_eq,Oz,Nat.reduceEqDiff,uD];by_cases g:i.a=b+1
   .rw[g]
   .have h:oD a i.a (gy (a i.a) d) (b+1)=a (b+1):=ac (λe=>g e.s);have e:oD a (b+1) (gy (a (b+1)) d) i.a=a i.a:=ac g;rw[h,e];funext q;unfold oD;by_cases d:q=b+1
    .rw[ae d,ac (by omega),ae d]
    .rw[ac d];by_cases e:q=i.a
     .rw[ae e,ae e]
     .rw[ac e,ac e,ac d]
  .simp[c,f]
def vW(e:HN)(g f:Nat)(a:L AV)(q:Nat)(x:St):Prop:=match x with
 |none=>a[q]?=some .e
 |some d=>∃b c,a[q]?=some (.a b 0 f c)/\b≠g/\b<e.h/\e.f b=LL (fj (d.1++d.2))
def vW.of{U:HN}{d f:Nat}{c a:L AV}{q:Nat}{x:St}(h:vW U d f c q x)(g:a[q]?=c[q]?)(b:U.h<=e.h)(k:∀b,b<U.h->b≠d->e.f b=U.f b):vW e d f a q x:=by
 cases x with
 |none=>exact g.t h
 |some d=>
  let⟨b,cap,d,a,i,j⟩:=h;exact⟨b,cap,g.t d,a,Y,(k b i a).t j⟩
structure tA (U:HN) (bl n lo S O:Nat) (row:List AV) (st:Nat->St):Prop where
 bT:U.f bl=LL row
 len:N row=n+1
 at_:∀q,lo<=q->q<=n->vW U bl (S+O) row q (st q)
 lens:∀q d,lo<=q->st q=some d->N d.1=S/\N d.2=O
 bl:bl<U.h
def tA.up{a n S O:Nat}{e:L AV}{f:Nat->St}(c:tA d a n h S O e f):tA d a n (h+1) S O e f:=
 ⟨c.bT,c.len,λq a b=>c.at_ q Y b,λq b a=>c.lens q b Y,c.bl⟩
def tA.ext{U d:HN}{a n f S O:Nat}{c:L AV}{g:Nat->St}(h:tA U a n f S O c g)(e:ai U.h U d):tA d a n f S O c g:=
 ⟨(e.2 _ h.bl).t h.bT,h.len,λq a b=>(h.at_ q a b).of R e.1 λx a _=>e.2 x a,h.lens,by have:=e.1;have:=h.bl;omega⟩
def Fg{j n S O q c:Nat}{o:Cp}{i:L AV}{l:Nat->St}{g:L Bool×L Bool}(p:tA d j n h S O i l)(D:h<=q)(F:q<=n)(t:N g.1=S/\N g.2=O)(I:d.f c=LL (fj (g.1++g.2)))(w:c<d.h)(a:S+O<=1099511627776):
  ∃e,i[q]?=some e/\(∀{Q:AV->HN->Prop},(∀b a f,ai d.h d f->b<f.h->tA (f.put j (LL (i.set q (.a b 0 (S+O) a)))) j n h S O (i.set q (.a b 0 (S+O) a)) (oD l q (gy (l q) g))->Q (.a b 0 (S+O) a) f)->
   ∃v f,aq Tryz.prog 46 [e,.a c 0 (S+O) o] d v f/\Q v f):=by
 have e:=p.bl;have e:=p.len;have C:N (g.1++g.2)=S+O:=by rw[ay,t.1,t.2]
 have m:∀(b:Nat) (a:Cp) (f:HN),ai d.h d f->d.h<=b->b<f.h->f.f b=LL (fj ((gy (l q) g).1++(gy (l q) g).2))->tA (f.put j (LL (i.set q (.a b 0 (S+O) a)))) j n h S O (i.set q (.a b 0 (S+O) a)) (oD l q (gy (l q) g)):=λb a f E z r s=>by
  have k:=E.1;have v:∀x,x≠j->(f.put j (LL (i.set q (.a b 0 (S+O) a)))).f x=f.f x:=λx y=>by show(if x=j then _ else _)=_;rw[ac y]
  refine⟨by show(if j=j then _ else _)=_;rw[ae R],by rw[jk];exact e,λk B H=>?_,λk e B u=>?_,by show j<f.h;omega⟩
  .by_cases j:k=q
   .subst j;show vW _ _ _ _ _ (if k=k then _ else _);rw[ae R];exact⟨b,a,ZS Y,Y,r,(v b Y).t s⟩
   .show vW _ _ _ _ _ (if k=q then _ else _);rw[ac j];exact(p.at_ k B H).of (ZR (λe=>j e.s)) (by show d.h<=f.h;omega) λx y H=>(v x H).t (E.2 x y)
  .have u:(if k=q then some (gy (l q) g) else l k)=some e:=u;by_cases j:k=q
   .rw[ae j] at u;cases u;cases v:l q with
    |none=>exact t
    |some y=>
     let⟨x,H⟩:=p.lens q y D v
     show(List.zipWith _ _ _).length=S/\N (List.zipWith _ _ _)=O
     rw[Er,Er,x,H,t.1,t.2];omega
   .rw[ac j] at u;exact p.lens k e B u
 have j:=p.at_ q D F;cases v:l q with
 |none=>
  rw[v] at j m;refine⟨.e,j,λ{Q} k=>?_⟩
  have:=abh (f:=o) (g:=Q) I w Y λb a f z r s E=>by rw[C];exact k b a f E r (m b a f E z r s)
  rw[C] at this;exact this
 |some y=>
  rw[v] at j m;let⟨_,e,u,_,B,F⟩:=j;let⟨x,H⟩:=p.lens q y D v;have j:N (y.1++y.2)=S+O:=by rw[ay,x,H]
  refine⟨_,u,λ{Q} k=>?_⟩;have u:List.zipWith and (y.1++y.2) (g.1++g.2)=List.zipWith and y.1 g.1++List.zipWith and y.2 g.2:=List.zipWith_append (by rw[x,t.1])
  have:=abi (f:=e) (j:=o) (g:=Q) F B I w Y Y λb a f z r s E=>by rw[j];rw[u] at s;exact k b a f E r (m b a f E z r s)
  rw[j,C] at this;exact this
end
section
def ahq(p:PD):DG p=(de (N p.an<=1024/\N p.y<=1024/\N p.s<=1024/\N p.ins<=64/\N p.o<=64/\N p.j<=8192)&&(p.ins++p.o++p.an++p.y).all tX):=by
 unfold DG;rw[NS,NS,NS];by_cases a:N p.an<=1024<;>by_cases b:N p.y<=1024<;>by_cases c:N p.s<=1024<;>by_cases d:N p.ins<=64<;>by_cases e:N p.o<=64<;>by_cases f:N p.j<=8192<;>simp[a,b,c,d,e,f,Bool.and_assoc]
def w7(a:HN)(c:Nat)(z:PV)(p:PD)(x0:St)(m:Nat)(b:FN)(U:HN):Prop:=∃pc e d,m=N p.j-pc/\pc<=N p.j/\b 1=.p a.h 0/\b 6=II (N p.j)/\b 9=.a c 0 (N p.j+1) (.k (N p.j+1))/\b 10=II pc/\
 ai a.h a U/\a.h<c/\U.f a.h=LL z.cells/\tA U c (N p.j) pc (N p.an) (N p.o) d e/\rT (p.j.drop pc) pc e=.inr x0
def w8(c:HN)(d e f b y:AV)(n:Nat)(l:L Nat)(m:Nat)(a:FN)(U:HN):Prop:=U=c/\∃i,m=N l-i/\i<=N l/\a 1=d/\a 6=e/\a 9=f/\a 10=II n/\a 11=b/\a 12=y/\a 13=II i
def w9(b:HN)(c d e:AV)(n:Nat)(m:Nat)(a:FN)(U:HN):Prop:=U=b/\∃i,m=n-i/\i<=n/\a 1=c/\a 6=d/\a 9=e/\a 16=II i
def ad8(l m:L Bool)(n:Nat):(l++m).getD (N l+n) false=m.getD n false:=by
 rw[cA,cA,vN (by omega),xG]
def abS(l m:L Bool)(n:Nat)(h:n<N l):(l++m).getD n false=l.getD n false:=by
 rw[cA,cA,tp h]
def abN{p:PD}(h:Cw p=(0,0)):(N p.an<=1024/\N p.y<=1024/\N p.s<=1024/\N p.ins<=64/\N p.o<=64/\N p.j<=8192)/\(∀x∈p.ins++p.o++p.an++p.y,tX x=true)/\(∀j (h:j<N p.j),px p j p.j[j]=true/\wI p p.j[j]=true)/\C9 p=(0,0):=by
 have a:=ahq p;unfold Cw at h;split at h
 .rename_i e;rw[e] at a;have a:=aaN a.s;split at h
  .cases h
  .rename_i c;split at h
   .cases h
   .rename_i d;exact⟨eL a.1,lX.1 a.2,λj b=>⟨by have:=Ko c j b;rwa [gg] at this,Ko d j b⟩,h⟩
 .cases h
def OB{q:Prop}(e:q:=by
 have b18:=(E18.2 U9.h D17.bl).trans b17;have t18:=(E18.2 U11.h Y).trans t17;have x18:=(E18.2 U.h Y).trans ((E17.2 _ Y).trans x11);have gg18:=E18.1;have ll18:=D18.len;rw[jk] at ll18;simp(disch:=omega)only[go_sem,p1,p6,p9,p10,p11,t18,b18,b17,t17,d5,d19,d20,eI,gv,GP,Oy,EB,B0,EA];rw[hgo] at hfol;exact⟨_,Y,pc+1,_,_,R,Y,p1,p6,p9,R,(aM F11 (aM E17 E18)).M (.put Y),hblg,(ac Y).trans x18,D18,hfol⟩):q:=e
def OC{q:Prop}(e:q:=by
 have D17:=D.up.ext E17;have b17:=D17.bT;let⟨rv18,hrv18,th18⟩:=Fg D17 (show pc+1<=pc+1 by omega) (show pc+1<=N p.j by omega) ld7 (o:=capb) c17 Y Y;simp(disch:=omega)only[go_sem,p1,p6,p9,p10,p11,hm1,hw,hset,c16,t16,t17,x16,d5,d20,d19,l3,b17,hrv18,eI,gv,GP,Oy,EB,B0,EA];refine al (th18 λbb18 cc18 U18 E18 hb18 D18=>?_);exact OB):q:=e
def OD{q:Prop}(e:q:=by
 have E17:ai U11.h U11 (U16.put cb (LL (fj (dd.1++dd.2)))):=cO E16 Y;have n17:(U16.put cb (LL (fj (dd.1++dd.2)))).h=U16.h:=R;have c17:(U16.put cb (LL (fj (dd.1++dd.2)))).f cb=LL (fj (dd.1++dd.2)):=ae R;have t17:(U16.put cb (LL (fj (dd.1++dd.2)))).f U11.h=_:=(ac Y).trans t16;exact OC):q:=e
def afa{p:PD}(h:C9 p=(0,0)):∃x,rT p.j 0 (zw p)=.inr x/\∀d,x=some d->d.2.all id=true:=by
 unfold C9 at h;split at h
 .exact absurd (dv Prod.snd h) dp
 .exact⟨_,by assumption,λ_ h=>by cases h⟩
 .rename_i d e;refine⟨_,e,λb a=>?_⟩;cases a;split at h
  .assumption
  .exact absurd (dv Prod.snd h) dp
def ah2(U:HN)(z:PV)(p:PD)(H:xP U z p)(hf:EJ p)(hc:Cw p=(0,0)):∃v K,aq Tryz.prog 20 [z.cells] U v K/\v=.t [II 0,II 0]/\ai U.h U K:=by
 let⟨⟨s1,s2,s3,s4,s5,s6⟩,b1,a6,hl⟩:=abN hc;refine cf V0 Tryz.func20 ?_;have l1:=pg H.ins hf.ins.1;have l2:=pg H.o hf.o.1;have l3:=pg H.an hf.an.1;have l4:=pg H.y hf.y.1;have l5:=pg H.s hf.s.1;have l6:=Xd H.j hf.j.1;have E1:ai U.h U (U.X (LL z.cells)):=ap (.refl _ _);have x1:(U.X (LL z.cells)).f U.h=LL z.cells:=by show(if U.h=U.h then _ else _)=_;rw[ae R]
 refine S6 l1 l2 l3 l4 l5 l6 ?_;refine Fz (f:=U.h+1) (n:=0) (l:=[]) (m:=N p.ins) (k:=p.ins.map (.i .i64)) dc ⟨R,.inr ⟨_,ak _,?_,.inl ⟨R,R,[],?_⟩⟩⟩ (vw H.ins ?_).vG Y ?_ λy2 h7 o2 E2=>?_
 .refine S0 ?_;omega
 .simp(disch:=omega)only[go_sem]
 .exact RA (ap (RA E1))
 .refine S0 ?_;omega
 have x2:h7.f U.h=LL z.cells:=(E2.2 U.h (bJ _)).t (by simp(disch:=omega)only[go_sem]);have g2:=E2.1;simp -implicitDefEqProofs only[I7] at g2;have F2:ai U.h U h7:=⟨Y,λb hb=>(E2.2 b Y).t (by simp(disch:=omega)only[go_sem])⟩;refine S1 x2 ?_;refine Fz (f:=U.h+1) dc o2 (vw H.o F2).vG Y Y λy3 k3 o3 E3=>?_;have x3:=(E3.2 U.h (bJ _)).t x2;have g3:=E3.1;have F3:ai U.h U k3:=⟨Y,λb hb=>(E3.2 b Y).t (F2.2 b hb)⟩;refine S1 x3 ?_;refine Fz (f:=U.h+1) dc o3 (vw H.an F3).vG Y Y λy4 k4 o4 E4=>?_;have x4:=(E4.2 U.h (bJ _)).t x3;have g4:=E4.1;have F4:ai U.h U k4:=⟨Y,λb hb=>(E4.2 b Y).t (F3.2 b hb)⟩;refine S1 x4 ?_;refine Fz (f:=U.h+1) dc o4 (vw H.y F4).vG Y Y λy5 c4 o5 E5=>?_;have x5:=(E5.2 U.h (bJ _)).t x4;have g5:=E5.1;have F5:ai U.h U c4:=⟨Y,λb hb=>(E5.2 b Y).t (F4.2 b hb)⟩;simp(disch:=omega)only[go_sem,x1,x2,x3,x4,x5,GP,EB,B0,EA];have r5:=o5.rd;rw[dH,<-cM,<-cM,<-cM] at r5;have x:N (p.ins++p.o++p.an++p.y)=0+N p.ins+N p.o+N p.an+N p.y:=by simp;omega
 rw[<-x] at r5;generalize p.ins++p.o++p.an++p.y=all at*;have nl:N all<=4096:=Y;have j0:U.h<c4.h:=Y;clear o2 o3 o4 o5 E2 E3 E4 E5 F2 F3 F4 x2 x3 x4 g2 g3 g4;have l0:∀e y' K,eF (.a e 1 y') y5 K=.ok (II (N all)) K:=λe y' K=>cD.len r5 Y;let⟨I1,h1⟩:=inv λm C a9=>∃i,m=N all-i/\i<=N all/\(C 1=.p U.h 0/\C 4=y5/\C 5=II i)/\a9=c4;refine aT I1 (N all) ((h1 _ _ _).2 ⟨0,R,aJ _,dy,R⟩) ?_;intro m C q6 hi;obtain⟨i,hm,hi,⟨p1,p4,p5⟩,rfl⟩:=(h1 _ _ _).1 hi;by_cases j:i<N all
 .obtain⟨bk,m1,k7,p8,m5,rfl,e1,l9,o1,Uu⟩:=r5.zk j;simp only[kM] at Uu;by_cases k1:all[i]=1
  .refine S6 p4 p5 l0 e1 Uu k1 ?_;exact⟨_,Y,(h1 _ _ _).2 ⟨i+1,R,j,⟨p1,p4,R⟩,R⟩⟩
  have k2:all[i]=2:=by simpa [tX,k1] using b1 _ (aU j)
  refine S6 p4 p5 l0 e1 Uu k2 ?_;exact⟨_,Y,(h1 _ _ _).2 ⟨i+1,R,j,⟨p1,p4,R⟩,R⟩⟩
 obtain rfl:i=N all:=Y;refine S6 p1 p4 p5 l0 x5 l6 ?_;let⟨I2,h2⟩:=inv λm C a9=>∃pc,m=N p.j-pc/\pc<=N p.j/\(C 1=.p U.h 0/\C 6=II (N p.j)/\C 7=II pc)/\ai U.h U a9/\U.h<a9.h/\a9.f U.h=LL z.cells;refine aT I2 (N p.j) ((h2 _ _ _).2 ⟨0,R,aJ _,⟨p1,R,R⟩,F5,j0,x5⟩) ?_;clear h1 b1 r5 l0 p1 p4 p5 hm hi j;intro m C q7 hi;let⟨pc,hm,w,⟨p1,p6,p7⟩,F7,g7,x7⟩:=(h2 _ _ _).1 hi;by_cases j:pc<N p.j
 .refine S4 p1 p6 p7 x7 ?_;refine al (afY (H.ext F7) hf j R λq8 E8=>?_);have g8:=E8.1;simp(disch:=omega)only[go_sem,p7,(a6 pc j).1,eI];exact⟨_,Y,(h2 _ _ _).2 ⟨pc+1,R,j,⟨p1,p6,R⟩,aM F7 E8,Y,(E8.2 _ g7).t x7⟩⟩
 obtain rfl:pc=N p.j:=Y;refine S2 p6 p7 ?_;let⟨I3,h3⟩:=inv λm C a9=>∃pc,m=N p.j-pc/\pc<=N p.j/\(C 1=.p U.h 0/\C 6=II (N p.j)/\C 8=II pc)/\ai U.h U a9/\U.h<a9.h/\a9.f U.h=LL z.cells;refine aT I3 (N p.j) ((h3 _ _ _).2 ⟨0,R,aJ _,⟨p1,p6,R⟩,F7,g7,x7⟩) ?_;clear h2 p1 p6 p7 hm w j F7 g7 x7 F5 g5 x5 E1;intro m C U9 hi;let⟨pc,hm,w,⟨p1,p6,p7⟩,F9,g9,x9⟩:=(h3 _ _ _).1 hi;by_cases j:pc<N p.j
 .let⟨bc,e5,c7,j6,e8,I,a3,c9,i5,B⟩:=aK.at (i:=pc) (H.ext F9).j (by simpa using j);simp only[aC,kM] at I B;refine S7 p1 p6 p7 x9 I a3 B ?_;rw[<-I];refine bL (adS (z:=z) (pc:=pc) (H.ext F9) hf (a6 pc j).1 (a6 pc j).2 λm8 b4=>?_);have n8:=b4.1;refine S1 p7 ?_;exact⟨_,Y,(h3 _ _ _).2 ⟨pc+1,R,j,⟨p1,p6,R⟩,aM F9 b4,Y,(b4.2 _ g9).t x9⟩⟩
 obtain rfl:pc=N p.j:=Y;let⟨x0,j3,j4⟩:=afa hl;have i7:¬24=0/\(N p.j+1)*24<=140737488355328:=⟨by decide,Y⟩;have i9:¬1=0/\N p.an+N p.o<=140737488355328:=⟨by decide,Y⟩;have e3:∀k:Nat,List.replicate k (AV.l false)=fj (List.replicate k false):=λk=>by unfold fj;rw[Of]
 simp(disch:=omega)only[go_sem,p1,p6,p7,ae i7,ae i9,x9,l2,l3,e3];have l7:N (List.replicate (N p.j+1) AV.e)=N p.j+1:=rD;have s:∀q d,zw p q=some d->q=0/\d=(List.replicate (N p.an) false,List.replicate (N p.o) false):=λq d h=>by
  unfold zw at h;split at h
  .rename_i e;cases h;exact⟨e,R⟩
  .cases h
 refine aT (w7 U U9.h z p x0) (N p.j) ⟨0,zw p,(List.replicate (N p.j+1) AV.e).set 0 (.a (U9.h+1) 0 (N p.an+N p.o) (.k (N p.an+N p.o))),Y,Y,p1,p6,R,R,?_,g9,?_,⟨?_,?_,λq _ hq=>?_,λq d _ h=>?_,?_⟩,j3⟩ ?_
 .exact F9.M ((cO (ap (ap (.refl _ _)))).mono F9.1)
 .simp(disch:=omega)only[go_sem,x9]
 .simp(disch:=omega)only[go_sem]
 .rw[jk,rD]
 .by_cases h0:q=0
  .subst h0;refine⟨U9.h+1,.k (N p.an+N p.o),ZS Y,Y,by show U9.h+1<U9.h+1+1;omega,?_⟩;refine S0 ?_;rw[List.replicate_append_replicate]
  .have e:zw p q=none:=ac h0;rw[e];show _[q]?=_;rw[ZR (by omega),List.getElem?_replicate,ae (by omega)]
 .obtain⟨_,rfl⟩:=s q d h;exact⟨rD,rD⟩
 .refine S0 ?_;omega
 clear p1 p6 p7 hm w j x9 h3
 rintro m C U11 ⟨pc,V,row,hm,w,p1,p6,p9,p10,F11,hblg,x11,D,hfol⟩
 have o:=D.bT;have e2:=D.bl;have o6:=D.len;by_cases j:pc<N p.j
 .have P:=eJ j;rw[P] at hfol;cases s:V pc with
  |none=>
   have l:row[pc]?=some .e:=by have:=D.at_ pc (ak _) w;rw[s] at this;exact this
   rw[rT,s] at hfol;refine S5 p6 p9 p10 o l ?_;exact⟨_,Y,pc+1,V,row,R,Y,p1,p6,p9,R,F11,hblg,x11,D.up,hfol⟩
  |some d=>
   obtain⟨bd,b0,l,e0,b2,F⟩:vW U11 U9.h (N p.an+N p.o) row pc (some d):=by have:=D.at_ pc (ak _) w;rw[s] at this;exact this
   have ld:=D.lens pc d (ak _) s;rw[rT,s] at hfol;let⟨bc,e5,c7,j6,e8,I,a3,c9,i5,B⟩:=aK.at (i:=pc) (H.ext F11).j (by simpa using j);simp only[aC,kM] at I B;have hi:=(a6 pc j).1;let⟨f1,f2,f3,f4,f5⟩:=YK hi;have fb:=hf.j.2 _ (aU j);have o7:N (aQ.cells p.j[pc])=4:=R;generalize p.j[pc]=i at*;let⟨f,a,b,c⟩:=i;have a4:aQ.cells ⟨f,a,b,c⟩=[II f,II a,II b,II c]:=R;rw[a4] at B;dsimp only at f1 f3 f4 f5 fb hfol;let⟨i3,n5,n6,n7⟩:=fb;have x:(iK ⟨f,a,b,c⟩).all (λn=>d.1.getD n false)=true/\rT (p.j.drop (pc+1)) (pc+1) (mP ⟨f,a,b,c⟩ pc V (fR ⟨f,a,b,c⟩ d))=.inr x0:=by
    have hfol:(if(iK ⟨f,a,b,c⟩).all (λn=>d.1.getD n false)=true then rT (p.j.drop (pc+1)) (pc+1) (mP ⟨f,a,b,c⟩ pc V (fR ⟨f,a,b,c⟩ d)) else Sum.inl pc)=.inr x0:=hfol;split at hfol
    .exact⟨by assumption,hfol⟩
    .cases hfol
   let⟨x,hfol⟩:=x;simp(disch:=omega)only[go_sem,p1,p6,p9,p10,o,l,x11,I,a3,B];have c6:ai U11.h U11 (U11.X (LL [f,a,b,c])):=ap (.refl _ _);have o9:(U11.X (LL [f,a,b,c])).h=U11.h+1:=R;have e9:(U11.X (LL [f,a,b,c])).f U11.h=LL [f,a,b,c]:=by show(if U11.h=U11.h then _ else _)=_;rw[ae R]
   generalize (U11.X (LL [II f,II a,II b,II c]))=m9 at*;refine al (a4▸XC (i:=⟨f,a,b,c⟩) i3 λj8 h6 W a8=>?_);rw[ahY f1] at a8;have a1:=aM c6 W;have n9:=a1.1;have p0:=W.1;have g0:=(W.2 _ Y).t e9;have u:=(a1.2 _ e2).t o;have y:=(a1.2 _ b2).t F;have lr:=pg a8 (XD _);have o8:=XD ⟨f,a,b,c⟩;refine S0 ?_;refine aT (w8 h6 (.p U.h 0) (II (N p.j)) (.a U9.h 0 (N p.j+1) (.k (N p.j+1))) (.p U11.h 0) j8 pc (iK ⟨f,a,b,c⟩)) (N (iK ⟨f,a,b,c⟩)) ⟨R,0,Y,Y,p1,p6,p9,p10,R,R,R⟩ ?_;clear p1 p6 p9 p10 a3 B
   rintro m2 k5 b3 ⟨rfl,k,i6,hk,p1,p6,p9,p10,p11,a7,e6⟩
   by_cases a5:k<N (iK ⟨f,a,b,c⟩)
   .let⟨bq,m3,k8,q0,m6,h5,i4,m0,j1⟩:=a8.at a5;have j2:=f2 _ (aU a5);have hg:=Ff (l:=d.1++d.2) (i:=(iK ⟨f,a,b,c⟩)[k]) (by rw[ay];omega);rw[abS _ _ _ (by rw[ld.1];exact j2)] at hg;rw[h5] at a7 lr;generalize Uu:(iK ⟨f,a,b,c⟩)[k]=rk at*;have hv:d.1.getD rk false=true:=by have:=lX.1 x rk (Uu▸aU a5);exact this
    rw[hv] at hg;simp(disch:=omega)only[go_sem,p9,p10,a7,e6,lr,u,l,y,i4,j1,hg,eI];exact⟨_,Y,R,k+1,R,Y,p1,p6,p9,p10,p11,h5▸a7,R⟩
   obtain rfl:k=N (iK ⟨f,a,b,c⟩):=Y;have dl:N (d.1++d.2)=N p.an+N p.o:=by rw[ay,ld.1,ld.2]
   obtain⟨q1,t,b5,⟨cb,capb,rfl,c1,c2,c3⟩,Z⟩:=Ps (d:=b3) (f:=b0) y Y Y;rw[dl] at b5;simp(disch:=omega)only[go_sem,p9,p10,p11,a7,e6,lr,u,l,b5];have b9:=(Z.2 _ Y).t g0;have b6:=(Z.2 _ Y).t u;have o0:=Z.1;refine S1 b9 ?_;have hm1:fU .i64 18446744073709551615 0=true:=Lr Y;have E16:ai U11.h U11 (t.X (LL [f,a,b,c])):=ap (aM a1 Z);have p2:(t.X (LL [f,a,b,c])).h=t.h+1:=R;have c16:(t.X (LL [f,a,b,c])).f cb=LL (fj (d.1++d.2)):=by show(if cb=t.h then _ else _)=_;rw[ac (by omega)];exact c3
   have t16:(t.X (LL [f,a,b,c])).f U11.h=LL [f,a,b,c]:=by show(if U11.h=t.h then _ else _)=_;rw[ac (by omega)];exact b9
   refine al (a4▸ajX (i:=⟨f,a,b,c⟩) f1 ?_);rw[a4];generalize t.X (LL [II f,II a,II b,II c])=U16 at*;have n2:=Cu (d.1++d.2);clear b5 c6 W e9 g0 b9 y lr a8 c3 u b6 P;have ld7:N (fR ⟨f,a,b,c⟩ d).1=N p.an/\N (fR ⟨f,a,b,c⟩ d).2=N p.o:=by unfold fR;simp only;(repeat' split)<;>simp[ld.1,ld.2]
   have x16:U16.f U.h=LL z.cells:=(E16.2 _ Y).t x11;have c8:f≠19->f≠20->mP ⟨f,a,b,c⟩ pc V (fR ⟨f,a,b,c⟩ d)=oD V (pc+1) (gy (V (pc+1)) (fR ⟨f,a,b,c⟩ d)):=λg1 g2=>by unfold mP;simp[g1,g2]
   have O:f=3\/19<=f->fR ⟨f,a,b,c⟩ d=d:=λg=>by unfold fR;dsimp only;rw[ac (by omega),ae (by omega)]
   have w1:f=3\/f=5\/19<=f->Eh ⟨f,a,b,c⟩=18446744073709551615:=λg=>ae g;by_cases q5:f=5
   .have hset:(fj (d.1++d.2)).set (N p.an+a) (.l true)=fj ((fR ⟨f,a,b,c⟩ d).1++(fR ⟨f,a,b,c⟩ d).2):=by
     subst q5;rw[Jc];show _=fj (d.1++d.2.set a true);rw[Es _ _ (by omega),ld.1,xG]
    have hgo:=c8 Y Y;have hw:=w1 Y;have d5:=aB q5;have d19:de (f=19)=false:=aA Y;have d20:de (f=20)=false:=aA Y;have fa:=f4 q5;generalize fR ⟨f,a,b,c⟩ d=dd at*;exact OD
   by_cases j5:19<=f
   .let⟨n3,n4⟩:=f5 Y;have hw:=w1 Y;have d5:de (f=5)=false:=aA q5;have E17:ai U11.h U11 U16:=E16;have c17:U16.f cb=LL (fj ((fR ⟨f,a,b,c⟩ d).1++(fR ⟨f,a,b,c⟩ d).2)):=by rw[O (.inr j5)];exact c16
    have n17:U16.h=U16.h:=R;have t17:=t16;have D17:=D.up.ext E17;have b17:=D17.bT;by_cases b8:f=20
    .have d20:=aB b8;have d19:de (f=19)=false:=aA Y;have hgo:mP ⟨f,a,b,c⟩ pc V (fR ⟨f,a,b,c⟩ d)=oD V a (gy (V a) (fR ⟨f,a,b,c⟩ d)):=by subst b8;rfl
     generalize fR ⟨f,a,b,c⟩ d=dd at*;let⟨rv18,hrv18,th18⟩:=Fg D17 (show pc+1<=a by omega) (show a<=N p.j by omega) ld7 (o:=capb) c17 Y Y;simp(disch:=omega)only[go_sem,p9,p11,hm1,hw,t16,d5,d19,d20,b17,hrv18,eI];refine bL (th18 λbb18 cc18 U18 E18 hb18 D18=>?_);exact OB
    have d20:de (f=20)=false:=aA b8;have d19:de (f=19)=true:=aB Y;rw[aec,ae (by dsimp only;omega),ae (by dsimp only;omega)] at hfol;dsimp only at hfol;generalize fR ⟨f,a,b,c⟩ d=dd at*;let⟨rv18,hrv18,th18⟩:=Fg D17 (show pc+1<=pc+1 by omega) (show pc+1<=N p.j by omega) ld7 (o:=capb) c17 Y Y;simp(disch:=omega)only[go_sem,p9,p10,p11,hm1,hw,t16,d5,d20,b17,hrv18,eI,gv];refine al (th18 λbb18 cc18 U18 E18 hb18 D18=>?_);have b18:=(E18.2 U9.h D17.bl).t b17;have t18:=(E18.2 U11.h Y).t t17;have x18:=(E18.2 U.h Y).t x16;have gg18:=E18.1;have ll18:=D18.len;rw[jk] at ll18;have i1:=(E18.2 cb Y).t c17;have h8:ai U.h U (U18.put U9.h (LL (row.set (pc+1) (.a bb18 0 (N p.an+N p.o) cc18)))):=(aM F11 (aM E17 E18)).M (.put Y);have p3:(U18.put U9.h (LL (row.set (pc+1) (.a bb18 0 (N p.an+N p.o) cc18)))).h=U18.h:=R;have a2:∀c r,U18.f c=r->c≠U9.h->(U18.put U9.h (LL (row.set (pc+1) (.a bb18 0 (N p.an+N p.o) cc18)))).f c=r:=λc r h g=>(ac g).t h;have i2:=a2 _ _ i1 Y;have g6:=a2 _ _ t18 Y;have j9:=a2 _ _ x18 Y;have h9:=D18.bT;refine S6 p9 p11 t18 b18 d19 B0 ?_;clear a2;generalize U18.put U9.h (LL (row.set (pc+1) (.a bb18 0 (N p.an+N p.o) cc18)))=n0 at*;generalize row.set (pc+1) (.a bb18 0 (N p.an+N p.o) cc18)=m4 at*;let⟨m7,b7,h4⟩:=Fg D18 (show pc+1<=a by omega) (show a<=N p.j by omega) ld7 (o:=capb) i2 Y Y;refine S1 b7 ?_;refine bL (h4 λk6 k9 n1 a0 l8 c5=>?_);have i0:=(a0.2 U9.h D18.bl).t h9;have j7:=(a0.2 U11.h Y).t g6;have k0:=(a0.2 U.h Y).t j9;have e4:=c5.len;rw[jk] at e4;simp(disch:=omega)only[go_sem,p10,j7,i0,g6,GP,EB,B0,EA];exact⟨_,Y,pc+1,_,_,R,Y,p1,p6,p9,R,(aM h8 a0).M (.put Y),hblg,(ac Y).t k0,c5,hfol⟩
   have d5:de (f=5)=false:=aA q5;have d19:de (f=19)=false:=aA Y;have d20:de (f=20)=false:=aA Y;have hgo:=c8 Y Y;by_cases q3:f=3
   .have hw:=w1 (.inl q3);have hset:=trivial;have E17:ai U11.h U11 U16:=E16;have n17:U16.h=U16.h:=R;have c17:U16.f cb=LL (fj ((fR ⟨f,a,b,c⟩ d).1++(fR ⟨f,a,b,c⟩ d).2)):=by rw[O (.inl q3)];exact c16
    have t17:=t16;have q4:=x16;generalize fR ⟨f,a,b,c⟩ d=dd at*;exact OC
   have hw:Eh ⟨f,a,b,c⟩=a:=by unfold Eh;dsimp only;rw[ac (by omega)]
   have fa:=f3 q3 q5 Y;have hset:(fj (d.1++d.2)).set a (.l true)=fj ((fR ⟨f,a,b,c⟩ d).1++(fR ⟨f,a,b,c⟩ d).2):=by
    unfold fR;dsimp only;rw[ac q5,ac (by omega),Jc,aac _ _ (by omega)]
   generalize fR ⟨f,a,b,c⟩ d=dd at*;exact OD
 obtain rfl:pc=N p.j:=Y;rw[fQ,rT] at hfol;refine S4 p1 p6 p9 p10 ?_;cases s:V (N p.j) with
 |none=>
  have l:row[N p.j]?=some .e:=by have:=D.at_ _ (ak _) w;rw[s] at this;exact this
  rw[s] at hfol;refine TE 1 ?_;by_cases h0:N p.o=0
  .refine S7 p1 p6 p9 x11 l2 o l ?_;exact F11
  .refine S7 p1 p6 p9 x11 l2 o l ?_;exact F11
 |some d=>
  obtain⟨bd,b0,l,e0,b2,F⟩:vW U11 U9.h (N p.an+N p.o) row (N p.j) (some d):=by have:=D.at_ _ (ak _) w;rw[s] at this;exact this
  have ld:=D.lens _ d (ak _) s;rw[s] at hfol;have x:=j4 d (Sum.inr.inj hfol).s;refine aT (w9 U11 (.p U.h 0) (II (N p.j)) (.a U9.h 0 (N p.j+1) (.k (N p.j+1))) (N p.o)) (N p.o) ⟨R,0,Y,Y,p1,p6,p9,R⟩ ?_;clear p1 p6 p9 p10
  rintro m2 k5 b3 ⟨rfl,k,i6,hk,p1,p6,p9,e7⟩
  by_cases a5:k<N p.o
  .have hg:=Ff (l:=d.1++d.2) (i:=N p.an+k) (by rw[ay];omega);rw[<-ld.1,ad8,ld.1] at hg;have hv:d.2.getD k false=true:=by
    have:=lX.1 x _ (aU (show k<N d.2 by omega))
    rw[cA,bM (by omega)];exact this
   rw[hv] at hg;simp(disch:=omega)only[go_sem,p1,p6,p9,e7,x11,l2,l3,o,l,F,hg,eI,gv];exact⟨_,Y,R,k+1,R,Y,p1,p6,p9,R⟩
  .obtain rfl:k=N p.o:=Y;simp(disch:=omega)only[go_sem,p1,p6,p9,e7,x11,l2,l3,o,l,F,eI,gv];exact F11
end
end Go.Proofs.YtehahhggpdhieaaGreatDoor
