/- Functions evaluated on the small machine: Metas alike: evaluated, Loops that SB for a place where something fails, Links of a node: evaluated. -/
import Derived.Test.YtghgecpicnfgpaaGreatEv4
namespace Go.Proofs.YtghgecpicnfgpaaGreat.Ow
open Go
set_option linter.unusedVariables false
set_option linter.unusedSimpArgs false
set_option maxHeartbeats 4000000
@[simp] def st125 (l m:List LI) (j:Nat):St:={n:=32,m:=0,tm:=[(1,.im 1 (enc fII m)),(2,.clo 124 []),(15,.im 1 (enc fII l)),(16,.sc (I6 l.length)),(17,.sc (I6 j))],ob:=[]}
theorem RO [PKI] (l m:List LI) (hl:lls l):sG 125 [.v (.im 1 (enc fII l)),.v (.im 1 (enc fII m)),.c 124 []]=some ⟨[.v (.sc (.bool (decide (l=m))))],[],[]⟩:=by
 refine sK p125 ?_;by_cases hlen:l.length=m.length
 ·have hlen':(l.length:Int)=m.length:=by omega
  obtain⟨k,hk,hp,hkn⟩:=first (λj=>l[j]? =m[j]?) l.length;have hstep: ∀j,j<k-> ∃s',xG b125_0 (st125 l m j)=some (.normal,s')/\s'.m<=10000000/\Aa 10000000 [1,2,15,16,17] s'=st125 l m (j+1):=λj hj=>by
   have hlt:j<l.length:=by omega
   have hlt2:j<m.length:=by omega
   obtain⟨x,_,hx,hx',_,hm⟩:=Ah l hlt;have hy1:m[j]? =some x:=(hp j hj).symm.trans hx;obtain⟨_,hy'⟩:=BT hy1;have e:=Oj x x (hl.2 x hm);simp only[decide_true]at e;simp[b125_0,  hlt,hlt2,hx',hy',e,Ar hlt hl.1]
  rcases hkn with rfl|⟨hlt,hn⟩
  ·have hsz:= @lok _ 10000000 [1,2,15,16,17] b125_0 (st125 l m) l.length hstep (by simp[b125_0]);have hlm:l=m:=List.ext_getElem? λi=>by
    rcases Nat.lt_or_ge i l.length with h|h
    ·exact hp i h
    ·rw[List.getElem?_eq_none h,List.getElem?_eq_none (by omega)]
   subst hlm;simp only[decide_true];simp[p125];rw[hsz]
   ·simp[b125_0]
   ·simp
   ·simp
  ·have hlt2:k<m.length:=by omega
   obtain⟨x,_,hx,hx',_,hm⟩:=Ah l hlt;obtain⟨y,_,hy,hy',_,_⟩:=Ah m hlt2;have hxy: ¬x=y:=λh=>hn (by rw[hx,hy,h])
   have e:=Oj x y (hl.2 x hm);rw[decide_eq_false hxy]at e;have hsz:= @lok _ 10000000 [1,2,15,16,17] b125_0 (st125 l m) k hstep (by simp[b125_0,  hlt,hlt2,hx',hy',e]);have hlm: ¬l=m:=λh=>hn (by rw[h])
   simp only[hlm,decide_false];simp[p125,hlen'];rw[hsz]
   ·simp[b125_0,  hlt,hlt2,hx',hy',e]
   ·simp
   ·simp[hlen']
 ·have hlen': ¬ (l.length:Int)=m.length:=by omega
  have hlm: ¬l=m:=λh=>hlen (by rw[h])
  simp only[hlm,decide_false];simp[p125,hlen,hlen']
theorem US (a b:Ay):decide (a=b)=(decide (a.gens=b.gens)&&decide (a.bits=b.bits)&&(a.fine==b.fine)&&(a.old==b.old)&&(a.held==b.held)&&(a.last==b.last)):=by
 obtain⟨g,l,f,o,h,n⟩:=a;obtain⟨g',l',f',o',h',n'⟩:=b;simp only[Ay.mk.injEq,Bool.decide_and,Bool.and_assoc];rfl
theorem L8 [PKI] (a b:Ay) (ha:mtS a):sG 76 [.a (AD (fM a)),.a (AD (fM b))]=some ⟨[.v (.sc (.bool (decide (a=b))))],[],[]⟩:=by
 refine sK p76 ?_;have e1:=Oj a.gens b.gens ha.1;have e2:=RO a.bits b.bits ha.2;rw[US];by_cases h1:a.gens=b.gens
 ·rw[decide_eq_true h1]at e1 ⊢;by_cases h2:a.bits=b.bits
  ·rw[decide_eq_true h2]at e2 ⊢;by_cases h3:a.fine=b.fine
   ·by_cases h4:a.old=b.old
    ·by_cases h5:a.held=b.held
     ·simp[p76,  e1,e2,h3,h4,h5]
     ·simp[p76,  e1,e2,h3,h4,h5]
    ·simp[p76,  e1,e2,h3,h4]
   ·simp[p76,  e1,e2,h3]
  ·rw[decide_eq_false h2]at e2 ⊢;simp[p76,  e1,e2]
 ·rw[decide_eq_false h1]at e1 ⊢;simp[p76,  e1]
@[simp] def st83 (a b:Ay) (j:Nat):St:={n:=68,m:=0,tm:=[(2,.pb 10000000 0),(3,.pb 10000001 0),(5,.sc (I6 j))],ob:=[(10000000,Qp a),(10000001,Qp b)]}
theorem L1 [PKI] (a b:Ay) (ha:mtS a):sG 83 [.a (AD (fM a)),.a (AD (fM b))]=some ⟨[.v (.sc (.bool (decide (a=b))))],[],[]⟩:=by
 refine sK p83 ?_;have e1:=L5 a.gens b.gens ha.1;rw[US];by_cases hlen:a.bits.length=b.bits.length
 case neg=>
  have hlen': ¬ (a.bits.length:Int)=b.bits.length:=by omega
  have h2: ¬a.bits=b.bits:=λh=>hlen (by rw[h])
  rw[decide_eq_false h2];simp[p83,  hlen,hlen']
 have hlen':(a.bits.length:Int)=b.bits.length:=by omega
 by_cases h1:a.gens=b.gens
 case neg=>
  rw[decide_eq_false h1]at e1 ⊢;simp[p83,  e1,hlen,hlen']
 rw[decide_eq_true h1]at e1 ⊢;by_cases h3:a.fine=b.fine
 case neg=>simp[p83,  e1,hlen,hlen',h3]
 by_cases h4:a.old=b.old
 case neg=>simp[p83,  e1,hlen,hlen',h3,h4]
 by_cases h5:a.held=b.held
 case neg=>simp[p83,  e1,hlen,hlen',h3,h4,h5]
 by_cases h6:a.last=b.last
 case neg=>simp[p83,  e1,hlen,hlen',h3,h4,h5,h6]
 have hll:=ha.2;obtain⟨k,hk,hp,hkn⟩:=first (λj=>a.bits[j]? =b.bits[j]?) a.bits.length;have hstep: ∀j,j<k-> ∃s',xG b83_0 (st83 a b j)=some (.normal,s')/\s'.m<=10000000/\Aa 10000000 [2,3,5] s'=st83 a b (j+1):=λj hj=>by
  have hlt:j<a.bits.length:=by omega
  have hlt2:j<b.bits.length:=by omega
  obtain⟨x,_,hx,hx',_,hm⟩:=Ah a.bits hlt;have hy1:b.bits[j]? =some x:=(hp j hj).symm.trans hx;obtain⟨_,hy'⟩:=BT hy1;have e:=L5 x x (hll.2 x hm);simp only[decide_true]at e;simp[b83_0,  hlt,hlt2,hx',hy',e,Ar hlt hll.1]
 rcases hkn with rfl|⟨hlt,hn⟩
 ·have hsz:= @lok _ 10000000 [2,3,5] b83_0 (st83 a b) a.bits.length hstep (by simp[b83_0]);have h2:a.bits=b.bits:=List.ext_getElem? λi=>by
   rcases Nat.lt_or_ge i a.bits.length with h|h
   ·exact hp i h
   ·rw[List.getElem?_eq_none h,List.getElem?_eq_none (by omega)]
  rw[decide_eq_true h2];simp[p83,  e1,hlen,hlen',h3,h4,h5,h6];rw[hsz]
  ·simp[b83_0,hlen]
  ·simp
  ·simp[h3,h4,h5,h6]
 ·have hlt2:k<b.bits.length:=by omega
  obtain⟨x,_,hx,hx',_,hm⟩:=Ah a.bits hlt;obtain⟨y,_,hy,hy',_,_⟩:=Ah b.bits hlt2;have hxy: ¬x=y:=λh=>hn (by rw[hx,hy,h])
  have e:=L5 x y (hll.2 x hm);rw[decide_eq_false hxy]at e;have hsz:= @lok _ 10000000 [2,3,5] b83_0 (st83 a b) k hstep (by simp[b83_0,  hlt,hlt2,hx',hy',e]);have h2: ¬a.bits=b.bits:=λh=>hn (by rw[h])
  rw[decide_eq_false h2];simp[p83,  e1,hlen,hlen',h3,h4,h5,h6];rw[hsz]
  ·simp[b83_0,  hlt,hlt2,hx',hy',e,hlen]
  ·simp
  ·simp[h3,h4,h5,h6]
section
variable {G:Nat->Option PF} {PK:Nat->List Arg->Option Res} {md:Nat->List Nat}
@[simp] def LW (o:Nat) (live:List Nat) (nxt:St) (p:Bool) (Bad:St->Prop):Option (Ex×St)->Prop
 |some (.normal,s')=>p=true/\s'.m<=o/\Aa o live s'=nxt
 |some (.ret,s')=>p=false/\Bad s'
 |_=>False
theorem Bo {o:Nat} {live:List Nat} {c:C} (ST:Nat->St) (p:Nat->Bool) (n:Nat) (Bad:St->Prop)
  (h: ∀j,j<n->LW o live (ST (j+1)) (p j) Bad (BR (B3 G PK md) (A6 G PK md) md c (ST j)))
  (hend: ∃ex s',BR (B3 G PK md) (A6 G PK md) md c (ST n)=some (ex,s')/\ex≠ .normal):
  ∃bad,(Ac p n=false->Bad bad)/\ ∀ (s:St),s.m<=o->Aa o live s=ST 0->A6 G PK md o live c s=if Ac p n=true then BR (B3 G PK md) (A6 G PK md) md c (ST n)else some (.ret,bad):=by
 obtain⟨k,hk,hp,hkn⟩:=first (λj=>p j=true) n
 have hstep: ∀j,j<k-> ∃s',BR (B3 G PK md) (A6 G PK md) md c (ST j)=some (.normal,s')/\s'.m<=o/\Aa o live s'=ST (j+1):=λj hj=>by
  have h1:=h j (by omega);generalize BR (B3 G PK md) (A6 G PK md) md c (ST j)=r at h1 ⊢;unfold LW at h1;split at h1
  ·exact⟨_,rfl,h1.2⟩
  ·have:=hp j hj;rw[this]at h1;cases h1.1
  ·exact h1.elim
 rcases hkn with rfl|⟨hlt,hn⟩
 ·refine⟨ST k,λhf=> ?_,λs hm hs=> ?_⟩
  ·rw[BJ hp]at hf;cases hf
  ·rw[if_pos (BJ hp)]
   exact Ih ST k hstep hend s hm hs
 ·have hn':p k=false:=by simpa using hn
  obtain⟨s',h1,hb⟩: ∃s',BR (B3 G PK md) (A6 G PK md) md c (ST k)=some (.ret,s')/\Bad s':=by
   have h1:=h k hlt;generalize BR (B3 G PK md) (A6 G PK md) md c (ST k)=r at h1 ⊢;unfold LW at h1;split at h1
   ·rw[hn']at h1;cases h1.1
   ·exact⟨_,rfl,h1.2⟩
   ·exact h1.elim
  refine⟨s',λ_=>hb,λs hm hs=> ?_⟩
  rw[if_neg (by rw[CT hlt hn'];simp),<-h1]
  exact Ih ST k hstep ⟨_,_,h1,by simp⟩ s hm hs
theorem VK {o:Nat} {live:List Nat} {c:C} (ST:Nat->St) (p:Nat->Bool) (n:Nat) (Bad:Nat->St->Prop)
  (h: ∀j,j<n->LW o live (ST (j+1)) (p j) (Bad j) (BR (B3 G PK md) (A6 G PK md) md c (ST j)))
  (hend: ∃ex s',BR (B3 G PK md) (A6 G PK md) md c (ST n)=some (ex,s')/\ex≠ .normal):
  ∃bad,(Ac p n=false-> ∃k,k<n/\(∀j,j<k->p j=true)/\p k=false/\Bad k bad)/\ ∀ (s:St),s.m<=o->Aa o live s=ST 0->A6 G PK md o live c s=if Ac p n=true then BR (B3 G PK md) (A6 G PK md) md c (ST n)else some (.ret,bad):=by
 obtain⟨k,hk,hp,hkn⟩:=first (λj=>p j=true) n
 have hstep: ∀j,j<k-> ∃s',BR (B3 G PK md) (A6 G PK md) md c (ST j)=some (.normal,s')/\s'.m<=o/\Aa o live s'=ST (j+1):=λj hj=>by
  have h1:=h j (by omega);generalize BR (B3 G PK md) (A6 G PK md) md c (ST j)=r at h1 ⊢;unfold LW at h1;split at h1
  ·exact⟨_,rfl,h1.2⟩
  ·have:=hp j hj;rw[this]at h1;cases h1.1
  ·exact h1.elim
 rcases hkn with rfl|⟨hlt,hn⟩
 ·refine⟨ST k,λhf=> ?_,λs hm hs=> ?_⟩
  ·rw[BJ hp]at hf;cases hf
  ·rw[if_pos (BJ hp)]
   exact Ih ST k hstep hend s hm hs
 ·have hn':p k=false:=by simpa using hn
  obtain⟨s',h1,hb⟩: ∃s',BR (B3 G PK md) (A6 G PK md) md c (ST k)=some (.ret,s')/\Bad k s':=by
   have h1:=h k hlt;generalize BR (B3 G PK md) (A6 G PK md) md c (ST k)=r at h1 ⊢;unfold LW at h1;split at h1
   ·rw[hn']at h1;cases h1.1
   ·exact⟨_,rfl,h1.2⟩
   ·exact h1.elim
  refine⟨s',λ_=>⟨k,hlt,hp,hn',hb⟩,λs hm hs=> ?_⟩
  rw[if_neg (by rw[CT hlt hn'];simp),<-h1]
  exact Ih ST k hstep ⟨_,_,h1,by simp⟩ s hm hs
end
def lk2 (n:AE) (j:Nat):Bool:= !(decide (0<(n.sync.getD j []).length)&& !n.copies.getD j false)&& !(n.copies.getD j false&& !n.conn.getD j false)&& !(n.conn.getD j false&&(!n.up||decide ((j:Int)=n.id)))
def lk (n:AE) (j:Nat):Bool:=Dg (n.sync.getD j [])&&lk2 n j
def Hy (n:AE):Bool:=decide (n.conn.length=3)&&decide (n.sync.length=3)&&decide (n.copies.length=3)&&Ac (lk n) 3
theorem Aj (l:List Bool) {j:Nat} (h:j<l.length): ∃ (x:Bool) (hj:j<l.length),l[j]? =some x/\l[j]=x/\l.getD j false=x:=⟨l[j],h,List.getElem?_eq_getElem h,rfl,by simp[List.getD_eq_getElem?_getD,h]⟩
@[simp] def PJ (n:AE):Obj:= .box [.sc (I6 n.id),.sc (.bool n.up),.sc (.bool n.prime),.im 1 (enc fI n.image),.im 1 (enc fI n.mt.gens),.im 1 (enc fII n.mt.bits),.sc (.bool n.mt.fine),.sc (.bool n.mt.old),.sc (.bool n.mt.held),.sc (I6 n.mt.last),
 .im 1 (enc fU n.sl.a),.im 1 (enc fU n.sl.b),.im 1 (enc fL n.conn),.im 1 (enc fII n.sync),.im 1 (enc fL n.copies),.im 1 (enc fI n.wait)]
@[simp] def st81 (n:AE) (j:Nat):St:={n:=81,m:=0,tm:=[(1,.pb 10000000 0),(3,.sc (I6 j))],ob:=[(10000000,PJ n)]}
theorem Ti [PKI] (n:AE) (hs:lls n.sync):sG 81 [.a (AD (fN n))]=some ⟨[.v (.sc (.bool (Hy n)))],[],[]⟩:=by
 refine sK p81 ?_;by_cases l1:n.conn.length=3
 case neg=>
  have l1': ¬ (n.conn.length:Int)=3:=by omega
  simp[p81,  Hy,l1,l1']
 by_cases l2:n.sync.length=3
 case neg=>
  have l2': ¬ (n.sync.length:Int)=3:=by omega
  simp[p81,  Hy,l1,l2,l2']
 by_cases l3:n.copies.length=3
 case neg=>
  have l3': ¬ (n.copies.length:Int)=3:=by omega
  simp[p81,  Hy,l1,l2,l3,l3']
 obtain⟨bad,hb,hsz⟩:= @Bo G PK md 10000000 [1,3] b81_0 (st81 n) (lk n) 3 (λs=>s.m=0/\Aw s.tm 2= .sc (.bool false)) (λj hj=>by
  obtain⟨x,y1,hx,hx',hxd,hm⟩:=Ah n.sync (j:=j) (by omega);obtain⟨cb,y2,hc,hc',hcd⟩:=Aj n.conn (j:=j) (by omega);obtain⟨pb,y3,hq,hq',hqd⟩:=Aj n.copies (j:=j) (by omega);have e:=E6 x (hs.2 x hm);have hj3:((j:Nat):Int)<3:=by omega
  have hi:=Ar (n:=3) (j:=j) (by omega) (by omega);unfold lk lk2;rw[hxd,hcd,hqd];generalize Dg x=b1 at e ⊢
  cases b1
  ·simp[b81_0,  y1,y2,y3,hx',hc',hq',e,hj3]
  by_cases hx0:0<x.length<;>cases pb
  all_goals
   cases cb
   ·simp[b81_0,  y1,y2,y3,hx',hc',hq',e,hj3,hx0,hi]
   ·by_cases hid:((j:Nat):Int)=n.id
    ·cases hu:n.up<;>simp[b81_0,  y1,y2,y3,hx',hc',hq',e,hj3,hx0,hi,hu,hid.symm]
    ·cases hu:n.up<;>simp[b81_0,  y1,y2,y3,hx',hc',hq',e,hj3,hx0,hi,hu,hid]) (by simp[b81_0])
 cases hp:Ac (lk n) 3
 ·obtain⟨hb1,hb2⟩:=hb hp;simp only[hp]at hsz;simp[p81,  l1,l2,l3,Hy,hp];rw[hsz]
  ·simp[hb1,hb2]
  ·simp
  ·simp
 ·simp only[hp]at hsz;simp[p81,  l1,l2,l3,Hy,hp];rw[hsz]
  ·simp[b81_0]
  ·simp
  ·simp
def CX (a b:Int) (l:LI) (j:Nat):Bool:=inB (l.getD j 0) a b&&(decide (j=0)||decide (l.getD (j - 1) 0<l.getD j 0))
def AL (n:AE):Bool:=inB n.id 0 2&&FE n.image&&BU n.mt&&Hy n&& !(n.prime&&(!n.up||n.id==2))&& !(!n.up&&decide (0<n.wait.length))&&Ac (CX 1 200 n.wait) n.wait.length&&(Af n.sl).2.2&&decide ((Af n.sl).1=n.mt)
structure nS (n:AE):Prop where
 image:n.image.length<=1048576
 mt:mtS n.mt
 sl:slS n.sl
 conn:n.conn.length<=1048576
 sync:lls n.sync
 copies:n.copies.length<=1048576
 wait:n.wait.length<=1048576
theorem Nx {b:LI} (hb:byt b):mtS (Au b).1:=by
 unfold Au;split
 ·rename_i h;obtain⟨q1,q2⟩:=QZ hb h.1;exact Ln q1 (by omega)
 ·exact⟨by simp[zM],by simp[zM,lls]⟩
theorem NZ {s:BG} (h:slS s):mtS (Af s).1:=by
 unfold Af;split
 ·exact Nx h.2
 ·exact Nx h.1
@[simp] def st42 (n:AE) (j:Nat):St:={n:=99,m:=0,tm:=[(1,.pb 10000000 0),(3,.sc (I6 j))],ob:=[(10000000,PJ n)]}
theorem Ab [PKI] (n:AE) (hn:nS n):sG 42 [.a (AD (fN n))]=some ⟨[.v (.sc (.bool (AL n)))],[],[]⟩:=by
 refine sK p42 ?_;have e0:=Ao n.id 0 2;have e1:=Mx n.image hn.image;have e2:=DH n.mt hn.mt;have e3:=Ti n hn.sync;have e4:=Dr n.sl hn.sl;have e5:=L1 (Af n.sl).1 n.mt (NZ hn.sl);simp only[AD,lent,fM,fN,fSl,AA,AJ]at e1 e2 e3 e4 e5;obtain⟨bad,hb,hsz⟩:= @Bo G PK md 10000000 [1,3] b42_0 (st42 n) (CX 1 200 n.wait) n.wait.length (λs=>s.m=0/\Aw s.tm 2= .sc (.bool false)) (λj hj=>by
  obtain⟨x,y1,hx,hx',hxd⟩:=AK n.wait (j:=j) (by omega);have e:=Ao x 1 200;have hi:=Ar hj hn.wait;unfold CX;rw[hxd];generalize inB x 1 200=b1 at e ⊢
  cases b1
  ·simp[b42_0,  hj,hx',e]
  rcases Nat.eq_zero_or_pos j with hz|hz
  ·subst hz;simp at hi;simp[b42_0,  hj,hx',e,hi]
  ·have hz0: ¬j=0:=by omega
   obtain⟨i,hij⟩: ∃i,j=i+1:=⟨j - 1,by omega⟩;obtain⟨x2,y2,hx2,hx2',hxd2⟩:=AK n.wait (j:=i) (by omega);have hw:IntKind.wrap .i64 ((j:Int) - 1)=(i:Int):=by rw[AC (by omega) (by have:=hn.wait;omega)];omega
   have hpos:(0:Int)<j:=by omega
   rw[show j - 1=i by omega,hxd2];by_cases hlt:x2<x
   ·have hge: ¬x<=x2:=by omega
    simp[b42_0,  hj,hz0,hz,hx',e,hi,hw,hpos,y2,hx2',hlt,hge]
   ·have hge:x<=x2:=by omega
    simp[b42_0,  hj,hz0,hz,hx',e,hi,hw,hpos,y2,hx2',hlt,hge]) (by simp[b42_0])
 unfold AL;generalize inB n.id 0 2=b0 at e0 ⊢
 cases b0
 ·simp[p42,  e0]
 generalize FE n.image=b0 at e1 ⊢
 cases b0
 ·simp[p42,  e0,e1]
 generalize BU n.mt=b0 at e2 ⊢
 cases b0
 ·simp[p42,  e0,e1,e2]
 generalize Hy n=b0 at e3 ⊢
 cases b0
 ·simp[p42,  e0,e1,e2,e3]
 by_cases hw0:0<n.wait.length
 ·cases hpr:n.prime<;>cases hu:n.up<;>rw[hpr,hu]at e3
  ·simp[p42,  e0,e1,e2,e3,hpr,hu,hw0]
  ·skip
   cases hp:Ac (CX 1 200 n.wait) n.wait.length
   ·obtain⟨hb1,hb2⟩:=hb hp;simp only[hp]at hsz;simp[p42,  e0,e1,e2,e3,hpr,hu,hw0];rw[hsz]
    ·simp[hb1,hb2]
    ·simp
    ·simp[hpr,hu,hw0]
   ·simp only[hp]at hsz;simp[p42,  e0,e1,e2,e3,hpr,hu,hw0];rw[hsz]
    ·cases hok:(Af n.sl).2.2
     ·rw[hok]at e4;simp[b42_0,  e4]
     ·rw[hok]at e4;simp[b42_0,  e4,e5,hpr,hu,hw0]
    ·simp
    ·simp[hpr,hu,hw0]
  ·simp[p42,  e0,e1,e2,e3,hpr,hu,hw0]
  ·by_cases hid:n.id=2
   ·simp[p42,  e0,e1,e2,e3,hpr,hu,hw0,eq_true hid]
   ·skip
    cases hp:Ac (CX 1 200 n.wait) n.wait.length
    ·obtain⟨hb1,hb2⟩:=hb hp;simp only[hp]at hsz;simp[p42,  e0,e1,e2,e3,hpr,hu,hw0,hid];rw[hsz]
     ·simp[hb1,hb2]
     ·simp
     ·simp[hpr,hu,hw0,hid]
    ·simp only[hp]at hsz;simp[p42,  e0,e1,e2,e3,hpr,hu,hw0,hid];rw[hsz]
     ·cases hok:(Af n.sl).2.2
      ·rw[hok]at e4;simp[b42_0,  e4]
      ·rw[hok]at e4;simp[b42_0,  e4,e5,hpr,hu,hw0,hid]
     ·simp
     ·simp[hpr,hu,hw0,hid]
 ·cases hpr:n.prime<;>cases hu:n.up<;>rw[hpr,hu]at e3
  ·skip
   cases hp:Ac (CX 1 200 n.wait) n.wait.length
   ·obtain⟨hb1,hb2⟩:=hb hp;simp only[hp]at hsz;simp[p42,  e0,e1,e2,e3,hpr,hu,hw0];rw[hsz]
    ·simp[hb1,hb2]
    ·simp
    ·simp[hpr,hu,hw0]
   ·simp only[hp]at hsz;simp[p42,  e0,e1,e2,e3,hpr,hu,hw0];rw[hsz]
    ·cases hok:(Af n.sl).2.2
     ·rw[hok]at e4;simp[b42_0,  e4]
     ·rw[hok]at e4;simp[b42_0,  e4,e5,hpr,hu,hw0]
    ·simp
    ·simp[hpr,hu,hw0]
  ·skip
   cases hp:Ac (CX 1 200 n.wait) n.wait.length
   ·obtain⟨hb1,hb2⟩:=hb hp;simp only[hp]at hsz;simp[p42,  e0,e1,e2,e3,hpr,hu,hw0];rw[hsz]
    ·simp[hb1,hb2]
    ·simp
    ·simp[hpr,hu,hw0]
   ·simp only[hp]at hsz;simp[p42,  e0,e1,e2,e3,hpr,hu,hw0];rw[hsz]
    ·cases hok:(Af n.sl).2.2
     ·rw[hok]at e4;simp[b42_0,  e4]
     ·rw[hok]at e4;simp[b42_0,  e4,e5,hpr,hu,hw0]
    ·simp
    ·simp[hpr,hu,hw0]
  ·simp[p42,  e0,e1,e2,e3,hpr,hu,hw0]
  ·by_cases hid:n.id=2
   ·simp[p42,  e0,e1,e2,e3,hpr,hu,hw0,eq_true hid]
   ·skip
    cases hp:Ac (CX 1 200 n.wait) n.wait.length
    ·obtain⟨hb1,hb2⟩:=hb hp;simp only[hp]at hsz;simp[p42,  e0,e1,e2,e3,hpr,hu,hw0,hid];rw[hsz]
     ·simp[hb1,hb2]
     ·simp
     ·simp[hpr,hu,hw0,hid]
    ·simp only[hp]at hsz;simp[p42,  e0,e1,e2,e3,hpr,hu,hw0,hid];rw[hsz]
     ·cases hok:(Af n.sl).2.2
      ·rw[hok]at e4;simp[b42_0,  e4]
      ·rw[hok]at e4;simp[b42_0,  e4,e5,hpr,hu,hw0,hid]
     ·simp
     ·simp[hpr,hu,hw0,hid]
end Go.Proofs.YtghgecpicnfgpaaGreat.Ow
