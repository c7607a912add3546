/- Functions evaluated on the small machine: Metas alike: evaluated, Loops that PW for a place where something fails, Links of a node: evaluated. -/
import Derived.Test.YtbolhfegdocpeaaGreatEv4
namespace Go.Proofs.YtbolhfegdocpeaaGreat.Ow
open Go
set_option linter.unusedVariables false
set_option linter.unusedSimpArgs false
set_option maxHeartbeats 4000000
section
variable {PK:Nat->List Arg->Option Res}
@[simp] def st169 (l m:List (List Int)) (j:Nat):St:={n:=32,m:=0,tm:=[(1,.im 1 (enc fII m)),(2,.clo 58 []),(15,.im 1 (enc fII l)),(16,.sc (.int .i64 l.length)),(17,.sc (.int .i64 j))],ob:=[]}
theorem Og (l m:List (List Int)) (hl:lls l):AH G PK md 169 [.v (.im 1 (enc fII l)),.v (.im 1 (enc fII m)),.c 58 []]=some ⟨[.v (.sc (.bool (decide (l=m))))],[],[]⟩:=by
 refine AA (pf:=p169) rfl (by simp[p169]) ?_;by_cases hlen:l.length=m.length
 ·have hlen':(l.length:Int)=m.length:=by omega
  obtain⟨k,hk,hp,hkn⟩:=first (fun j=>l[j]? =m[j]?) l.length;have hstep: ∀j,j<k-> ∃s',An (AH G PK md) (Ag G PK md) md b169_0 (st169 l m j)=some (.normal,s')/\s'.m<=10000000/\Ai 10000000 [1,2,15,16,17] s'=st169 l m (j+1):=fun j hj=>by
   have hlt:j<l.length:=by omega
   have hlt2:j<m.length:=by omega
   obtain⟨x,_,hx,hx',_,hm⟩:=Ax l hlt;have hy1:m[j]? =some x:=(hp j hj).symm.trans hx;obtain⟨_,hy'⟩:=Ba hy1;have e:=MP (PK:=PK) x x (hl.2 x hm);simp only[decide_true]at e;simp[b169_0,md,hlt,hlt2,hx',hy',e,A2 hlt hl.1]
  rcases hkn with rfl|⟨hlt,hn⟩
  ·have hsz:=AL (G:=G) (PK:=PK) (md:=md) (o:=10000000) (live:=[1,2,15,16,17]) (c:=b169_0) (st169 l m) l.length hstep (by simp[b169_0]);have hlm:l=m:=List.ext_getElem? fun i=>by
    rcases Nat.lt_or_ge i l.length with h|h
    ·exact hp i h
    ·rw[List.getElem?_eq_none h,List.getElem?_eq_none (by omega)]
   subst hlm;simp only[decide_true];simp[p169];rw[hsz]
   ·simp[b169_0]
   ·simp
   ·simp
  ·have hlt2:k<m.length:=by omega
   obtain⟨x,_,hx,hx',_,hm⟩:=Ax l hlt;obtain⟨y,_,hy,hy',_,_⟩:=Ax m hlt2;have hxy: ¬x=y:=fun h=>hn (by rw[hx,hy,h])
   have e:=MP (PK:=PK) x y (hl.2 x hm);rw[decide_eq_false hxy]at e;have hsz:=AL (G:=G) (PK:=PK) (md:=md) (o:=10000000) (live:=[1,2,15,16,17]) (c:=b169_0) (st169 l m) k hstep (by simp[b169_0,md,hlt,hlt2,hx',hy',e]);have hlm: ¬l=m:=fun h=>hn (by rw[h])
   simp only[hlm,decide_false];simp[p169,hlen'];rw[hsz]
   ·simp[b169_0,md,hlt,hlt2,hx',hy',e]
   ·simp
   ·simp[hlen']
 ·have hlen': ¬ (l.length:Int)=m.length:=by omega
  have hlm: ¬l=m:=fun h=>hlen (by rw[h])
  simp only[hlm,decide_false];simp[p169,hlen,hlen']
theorem Rj (a b:Av):decide (a=b)=(decide (a.gens=b.gens)&&decide (a.bits=b.bits)&&(a.fine==b.fine)&&(a.old==b.old)&&(a.held==b.held)&&(a.last==b.last)):=by
 obtain⟨g,l,f,o,h,n⟩:=a;obtain⟨g',l',f',o',h',n'⟩:=b;simp only[Av.mk.injEq,Bool.decide_and,Bool.and_assoc];rfl
theorem Jr (a b:Av) (ha:mtS a):AH G PK md 128 [.a (AJ (fM a)),.a (AJ (fM b))]=some ⟨[.v (.sc (.bool (decide (a=b))))],[],[]⟩:=by
 refine AA (pf:=p128) rfl (by simp[p128]) ?_;have e1:=MP (PK:=PK) a.gens b.gens ha.1;have e2:=Og (PK:=PK) a.bits b.bits ha.2;rw[Rj];by_cases h1:a.gens=b.gens
 ·rw[decide_eq_true h1]at e1 ⊢;by_cases h2:a.bits=b.bits
  ·rw[decide_eq_true h2]at e2 ⊢;by_cases h3:a.fine=b.fine
   ·by_cases h4:a.old=b.old
    ·by_cases h5:a.held=b.held
     ·simp[p128,md,e1,e2,h3,h4,h5]
     ·simp[p128,md,e1,e2,h3,h4,h5]
    ·simp[p128,md,e1,e2,h3,h4]
   ·simp[p128,md,e1,e2,h3]
  ·rw[decide_eq_false h2]at e2 ⊢;simp[p128,md,e1,e2]
 ·rw[decide_eq_false h1]at e1 ⊢;simp[p128,md,e1]
@[simp] def st134 (a b:Av) (j:Nat):St:={n:=68,m:=0,tm:=[(2,.pb 10000000 0),(3,.pb 10000001 0),(5,.sc (.int .i64 j))],ob:=[(10000000,OJ a),(10000001,OJ b)]}
theorem Jk (a b:Av) (ha:mtS a):AH G PK md 134 [.a (AJ (fM a)),.a (AJ (fM b))]=some ⟨[.v (.sc (.bool (decide (a=b))))],[],[]⟩:=by
 refine AA (pf:=p134) rfl (by simp[p134]) ?_;have e1:=Jn (PK:=PK) a.gens b.gens ha.1;rw[Rj];by_cases hlen:a.bits.length=b.bits.length
 case neg=>
  have hlen': ¬ (a.bits.length:Int)=b.bits.length:=by omega
  have h2: ¬a.bits=b.bits:=fun h=>hlen (by rw[h])
  rw[decide_eq_false h2];simp[p134,md,hlen,hlen']
 have hlen':(a.bits.length:Int)=b.bits.length:=by omega
 by_cases h1:a.gens=b.gens
 case neg=>
  rw[decide_eq_false h1]at e1 ⊢;simp[p134,md,e1,hlen,hlen']
 rw[decide_eq_true h1]at e1 ⊢;by_cases h3:a.fine=b.fine
 case neg=>simp[p134,md,e1,hlen,hlen',h3]
 by_cases h4:a.old=b.old
 case neg=>simp[p134,md,e1,hlen,hlen',h3,h4]
 by_cases h5:a.held=b.held
 case neg=>simp[p134,md,e1,hlen,hlen',h3,h4,h5]
 by_cases h6:a.last=b.last
 case neg=>simp[p134,md,e1,hlen,hlen',h3,h4,h5,h6]
 have hll:=ha.2;obtain⟨k,hk,hp,hkn⟩:=first (fun j=>a.bits[j]? =b.bits[j]?) a.bits.length;have hstep: ∀j,j<k-> ∃s',An (AH G PK md) (Ag G PK md) md b134_0 (st134 a b j)=some (.normal,s')/\s'.m<=10000000/\Ai 10000000 [2,3,5] s'=st134 a b (j+1):=fun j hj=>by
  have hlt:j<a.bits.length:=by omega
  have hlt2:j<b.bits.length:=by omega
  obtain⟨x,_,hx,hx',_,hm⟩:=Ax a.bits hlt;have hy1:b.bits[j]? =some x:=(hp j hj).symm.trans hx;obtain⟨_,hy'⟩:=Ba hy1;have e:=Jn (PK:=PK) x x (hll.2 x hm);simp only[decide_true]at e;simp[b134_0,md,hlt,hlt2,hx',hy',e,A2 hlt hll.1]
 rcases hkn with rfl|⟨hlt,hn⟩
 ·have hsz:=AL (G:=G) (PK:=PK) (md:=md) (o:=10000000) (live:=[2,3,5]) (c:=b134_0) (st134 a b) a.bits.length hstep (by simp[b134_0]);have h2:a.bits=b.bits:=List.ext_getElem? fun i=>by
   rcases Nat.lt_or_ge i a.bits.length with h|h
   ·exact hp i h
   ·rw[List.getElem?_eq_none h,List.getElem?_eq_none (by omega)]
  rw[decide_eq_true h2];simp[p134,md,e1,hlen,hlen',h3,h4,h5,h6];rw[hsz]
  ·simp[b134_0,hlen]
  ·simp
  ·simp[h3,h4,h5,h6]
 ·have hlt2:k<b.bits.length:=by omega
  obtain⟨x,_,hx,hx',_,hm⟩:=Ax a.bits hlt;obtain⟨y,_,hy,hy',_,_⟩:=Ax b.bits hlt2;have hxy: ¬x=y:=fun h=>hn (by rw[hx,hy,h])
  have e:=Jn (PK:=PK) x y (hll.2 x hm);rw[decide_eq_false hxy]at e;have hsz:=AL (G:=G) (PK:=PK) (md:=md) (o:=10000000) (live:=[2,3,5]) (c:=b134_0) (st134 a b) k hstep (by simp[b134_0,md,hlt,hlt2,hx',hy',e]);have h2: ¬a.bits=b.bits:=fun h=>hn (by rw[h])
  rw[decide_eq_false h2];simp[p134,md,e1,hlen,hlen',h3,h4,h5,h6];rw[hsz]
  ·simp[b134_0,md,hlt,hlt2,hx',hy',e,hlen]
  ·simp
  ·simp[h3,h4,h5,h6]
end
section
variable {G:Nat->Option PF} {PK:Nat->List Arg->Option Res} {md:Nat->List Nat}
@[simp] def JP (o:Nat) (live:List Nat) (nxt:St) (p:Bool) (Bad:St->Prop):Option (Ex×St)->Prop
 |some (.normal,s')=>p=true/\s'.m<=o/\Ai o live s'=nxt
 |some (.ret,s')=>p=false/\Bad s'
 |_=>False
theorem BY {o:Nat} {live:List Nat} {c:C} (ST:Nat->St) (p:Nat->Bool) (n:Nat) (Bad:St->Prop)
  (h: ∀j,j<n->JP o live (ST (j+1)) (p j) Bad (An (AH G PK md) (Ag G PK md) md c (ST j)))
  (hend: ∃ex s',An (AH G PK md) (Ag G PK md) md c (ST n)=some (ex,s')/\ex≠ .normal):
  ∃bad,(Af p n=false->Bad bad)/\ ∀ (s:St),s.m<=o->Ai o live s=ST 0->Ag G PK md o live c s=if Af p n=true then An (AH G PK md) (Ag G PK md) md c (ST n)else some (.ret,bad):=by
 obtain⟨k,hk,hp,hkn⟩:=first (fun j=>p j=true) n
 have hstep: ∀j,j<k-> ∃s',An (AH G PK md) (Ag G PK md) md c (ST j)=some (.normal,s')/\s'.m<=o/\Ai o live s'=ST (j+1):=fun j hj=>by
  have h1:=h j (by omega);generalize An (AH G PK md) (Ag G PK md) md c (ST j)=r at h1 ⊢;unfold JP at h1;split at h1
  ·exact⟨_,rfl,h1.2⟩
  ·have:=hp j hj;rw[this]at h1;cases h1.1
  ·exact h1.elim
 rcases hkn with rfl|⟨hlt,hn⟩
 ·refine⟨ST k,fun hf=> ?_,fun s hm hs=> ?_⟩
  ·rw[BJ hp]at hf;cases hf
  ·rw[if_pos (BJ hp)]
   exact AL ST k hstep hend s hm hs
 ·have hn':p k=false:=by simpa using hn
  obtain⟨s',h1,hb⟩: ∃s',An (AH G PK md) (Ag G PK md) md c (ST k)=some (.ret,s')/\Bad s':=by
   have h1:=h k hlt;generalize An (AH G PK md) (Ag G PK md) md c (ST k)=r at h1 ⊢;unfold JP at h1;split at h1
   ·rw[hn']at h1;cases h1.1
   ·exact⟨_,rfl,h1.2⟩
   ·exact h1.elim
  refine⟨s',fun _=>hb,fun s hm hs=> ?_⟩
  rw[if_neg (by rw[B3 hlt hn'];simp),←h1]
  exact AL ST k hstep ⟨_,_,h1,by simp⟩ s hm hs
theorem ER {o:Nat} {live:List Nat} {c:C} (ST:Nat->St) (p:Nat->Bool) (n:Nat) (Bad:Nat->St->Prop)
  (h: ∀j,j<n->JP o live (ST (j+1)) (p j) (Bad j) (An (AH G PK md) (Ag G PK md) md c (ST j)))
  (hend: ∃ex s',An (AH G PK md) (Ag G PK md) md c (ST n)=some (ex,s')/\ex≠ .normal):
  ∃bad,(Af p n=false-> ∃k,k<n/\(∀j,j<k->p j=true)/\p k=false/\Bad k bad)/\ ∀ (s:St),s.m<=o->Ai o live s=ST 0->Ag G PK md o live c s=if Af p n=true then An (AH G PK md) (Ag G PK md) md c (ST n)else some (.ret,bad):=by
 obtain⟨k,hk,hp,hkn⟩:=first (fun j=>p j=true) n
 have hstep: ∀j,j<k-> ∃s',An (AH G PK md) (Ag G PK md) md c (ST j)=some (.normal,s')/\s'.m<=o/\Ai o live s'=ST (j+1):=fun j hj=>by
  have h1:=h j (by omega);generalize An (AH G PK md) (Ag G PK md) md c (ST j)=r at h1 ⊢;unfold JP at h1;split at h1
  ·exact⟨_,rfl,h1.2⟩
  ·have:=hp j hj;rw[this]at h1;cases h1.1
  ·exact h1.elim
 rcases hkn with rfl|⟨hlt,hn⟩
 ·refine⟨ST k,fun hf=> ?_,fun s hm hs=> ?_⟩
  ·rw[BJ hp]at hf;cases hf
  ·rw[if_pos (BJ hp)]
   exact AL ST k hstep hend s hm hs
 ·have hn':p k=false:=by simpa using hn
  obtain⟨s',h1,hb⟩: ∃s',An (AH G PK md) (Ag G PK md) md c (ST k)=some (.ret,s')/\Bad k s':=by
   have h1:=h k hlt;generalize An (AH G PK md) (Ag G PK md) md c (ST k)=r at h1 ⊢;unfold JP at h1;split at h1
   ·rw[hn']at h1;cases h1.1
   ·exact⟨_,rfl,h1.2⟩
   ·exact h1.elim
  refine⟨s',fun _=>⟨k,hlt,hp,hn',hb⟩,fun s hm hs=> ?_⟩
  rw[if_neg (by rw[B3 hlt hn'];simp),←h1]
  exact AL ST k hstep ⟨_,_,h1,by simp⟩ s hm hs
end
section
variable {PK:Nat->List Arg->Option Res}
def lk2 (n:AG) (j:Nat):Bool:= !(decide (0<(n.sync.getD j []).length)&& !n.copies.getD j false)&& !(n.copies.getD j false&& !n.conn.getD j false)&& !(n.conn.getD j false&&(!n.up||decide ((j:Int)=n.id)))
def lk (n:AG) (j:Nat):Bool:=C5 (n.sync.getD j [])&&lk2 n j
def Gk (n:AG):Bool:=decide (n.conn.length=3)&&decide (n.sync.length=3)&&decide (n.copies.length=3)&&Af (lk n) 3
theorem A1 (l:List Bool) {j:Nat} (h:j<l.length): ∃ (x:Bool) (hj:j<l.length),l[j]? =some x/\l[j]=x/\l.getD j false=x:=⟨l[j],h,List.getElem?_eq_getElem h,rfl,by simp[List.getD_eq_getElem?_getD,h]⟩
@[simp] def OI (n:AG):Obj:= .box [.sc (.int .i64 n.id),.sc (.bool n.up),.sc (.bool n.prime),.im 1 (enc fI n.image),.im 1 (enc fI n.mt.gens),.im 1 (enc fII n.mt.bits),.sc (.bool n.mt.fine),.sc (.bool n.mt.old),.sc (.bool n.mt.held),.sc (.int .i64 n.mt.last),
 .im 1 (enc fU n.sl.a),.im 1 (enc fU n.sl.b),.im 1 (enc fL n.conn),.im 1 (enc fII n.sync),.im 1 (enc fL n.copies),.im 1 (enc fI n.wait)]
@[simp] def st132 (n:AG) (j:Nat):St:={n:=81,m:=0,tm:=[(1,.pb 10000000 0),(3,.sc (.int .i64 j))],ob:=[(10000000,OI n)]}
theorem Q0 (n:AG) (hs:lls n.sync):AH G PK md 132 [.a (AJ (fN n))]=some ⟨[.v (.sc (.bool (Gk n)))],[],[]⟩:=by
 refine AA (pf:=p132) rfl (by simp[p132]) ?_;by_cases l1:n.conn.length=3
 case neg=>
  have l1': ¬ (n.conn.length:Int)=3:=by omega
  simp[p132,md,Gk,l1,l1']
 by_cases l2:n.sync.length=3
 case neg=>
  have l2': ¬ (n.sync.length:Int)=3:=by omega
  simp[p132,md,Gk,l1,l2,l2']
 by_cases l3:n.copies.length=3
 case neg=>
  have l3': ¬ (n.copies.length:Int)=3:=by omega
  simp[p132,md,Gk,l1,l2,l3,l3']
 obtain⟨bad,hb,hsz⟩:=BY (G:=G) (PK:=PK) (md:=md) (o:=10000000) (live:=[1,3]) (c:=b132_0) (st132 n) (lk n) 3 (fun s=>s.m=0/\At s.tm 2= .sc (.bool false)) (fun j hj=>by
  obtain⟨x,y1,hx,hx',hxd,hm⟩:=Ax n.sync (j:=j) (by omega);obtain⟨cb,y2,hc,hc',hcd⟩:=A1 n.conn (j:=j) (by omega);obtain⟨pb,y3,hq,hq',hqd⟩:=A1 n.copies (j:=j) (by omega);have e:=EC (PK:=PK) x (hs.2 x hm);have hj3:((j:Nat):Int)<3:=by omega
  have hi:=A2 (n:=3) (j:=j) (by omega) (by omega);unfold lk lk2;rw[hxd,hcd,hqd];generalize C5 x=b1 at e ⊢
  cases b1
  ·simp[b132_0,md,y1,y2,y3,hx',hc',hq',e,hj3]
  by_cases hx0:0<x.length<;>cases pb
  all_goals
   cases cb
   ·simp[b132_0,md,y1,y2,y3,hx',hc',hq',e,hj3,hx0,hi]
   ·by_cases hid:((j:Nat):Int)=n.id
    ·cases hu:n.up<;>simp[b132_0,md,y1,y2,y3,hx',hc',hq',e,hj3,hx0,hi,hu,hid.symm]
    ·cases hu:n.up<;>simp[b132_0,md,y1,y2,y3,hx',hc',hq',e,hj3,hx0,hi,hu,hid]) (by simp[b132_0])
 cases hp:Af (lk n) 3
 ·obtain⟨hb1,hb2⟩:=hb hp;simp only[hp]at hsz;simp[p132,md,l1,l2,l3,Gk,hp];rw[hsz]
  ·simp[hb1,hb2]
  ·simp
  ·simp
 ·simp only[hp]at hsz;simp[p132,md,l1,l2,l3,Gk,hp];rw[hsz]
  ·simp[b132_0]
  ·simp
  ·simp
def Cr (a b:Int) (l:List Int) (j:Nat):Bool:=inB (l.getD j 0) a b&&(decide (j=0)||decide (l.getD (j - 1) 0<l.getD j 0))
def Am (n:AG):Bool:=inB n.id 0 2&&EG n.image&&BP n.mt&&Gk n&& !(n.prime&&(!n.up||n.id==2))&& !(!n.up&&decide (0<n.wait.length))&&Af (Cr 1 200 n.wait) n.wait.length&&(Ak n.sl).2.2&&decide ((Ak n.sl).1=n.mt)
structure nS (n:AG):Prop where
 image:n.image.length<=1048576
 mt:mtS n.mt
 sl:slS n.sl
 conn:n.conn.length<=1048576
 sync:lls n.sync
 copies:n.copies.length<=1048576
 wait:n.wait.length<=1048576
theorem Le {b:List Int} (hb:byt b):mtS (Aq b).1:=by
 unfold Aq;split
 ·rename_i h;obtain⟨q1,q2⟩:=N2 hb h.1;exact Jb q1 (by omega)
 ·exact⟨by simp[zM],by simp[zM,lls]⟩
theorem LB {s:A8} (h:slS s):mtS (Ak s).1:=by
 unfold Ak;split
 ·exact Le h.2
 ·exact Le h.1
@[simp] def st89 (n:AG) (j:Nat):St:={n:=99,m:=0,tm:=[(1,.pb 10000000 0),(3,.sc (.int .i64 j))],ob:=[(10000000,OI n)]}
theorem AZ (n:AG) (hn:nS n):AH G PK md 89 [.a (AJ (fN n))]=some ⟨[.v (.sc (.bool (Am n)))],[],[]⟩:=by
 refine AA (pf:=p89) rfl (by simp[p89]) ?_;have e0:=Aj (PK:=PK) n.id 0 2;have e1:=KW (PK:=PK) n.image hn.image;have e2:=Ce (PK:=PK) n.mt hn.mt;have e3:=Q0 (PK:=PK) n hn.sync;have e4:=C1 (PK:=PK) n.sl hn.sl;have e5:=Jk (PK:=PK) (Ak n.sl).1 n.mt (LB hn.sl);simp only[AJ,lent,fM,fN,fSl,AD,AX]at e1 e2 e3 e4 e5;obtain⟨bad,hb,hsz⟩:=BY (G:=G) (PK:=PK) (md:=md) (o:=10000000) (live:=[1,3]) (c:=b89_0) (st89 n) (Cr 1 200 n.wait) n.wait.length (fun s=>s.m=0/\At s.tm 2= .sc (.bool false)) (fun j hj=>by
  obtain⟨x,y1,hx,hx',hxd⟩:=AT n.wait (j:=j) (by omega);have e:=Aj (PK:=PK) x 1 200;have hi:=A2 hj hn.wait;unfold Cr;rw[hxd];generalize inB x 1 200=b1 at e ⊢
  cases b1
  ·simp[b89_0,md,hj,hx',e]
  rcases Nat.eq_zero_or_pos j with hz|hz
  ·subst hz;simp at hi;simp[b89_0,md,hj,hx',e,hi]
  ·have hz0: ¬j=0:=by omega
   obtain⟨i,hij⟩: ∃i,j=i+1:=⟨j - 1,by omega⟩;obtain⟨x2,y2,hx2,hx2',hxd2⟩:=AT n.wait (j:=i) (by omega);have hw:IntKind.wrap .i64 ((j:Int) - 1)=(i:Int):=by rw[AC (by omega) (by have:=hn.wait;omega)];omega
   have hpos:(0:Int)<j:=by omega
   rw[show j - 1=i by omega,hxd2];by_cases hlt:x2<x
   ·have hge: ¬x<=x2:=by omega
    simp[b89_0,md,hj,hz0,hz,hx',e,hi,hw,hpos,y2,hx2',hlt,hge]
   ·have hge:x<=x2:=by omega
    simp[b89_0,md,hj,hz0,hz,hx',e,hi,hw,hpos,y2,hx2',hlt,hge]) (by simp[b89_0])
 unfold Am;generalize inB n.id 0 2=b0 at e0 ⊢
 cases b0
 ·simp[p89,md,e0]
 generalize EG n.image=b0 at e1 ⊢
 cases b0
 ·simp[p89,md,e0,e1]
 generalize BP n.mt=b0 at e2 ⊢
 cases b0
 ·simp[p89,md,e0,e1,e2]
 generalize Gk n=b0 at e3 ⊢
 cases b0
 ·simp[p89,md,e0,e1,e2,e3]
 by_cases hw0:0<n.wait.length
 ·cases hpr:n.prime<;>cases hu:n.up<;>rw[hpr,hu]at e3
  ·simp[p89,md,e0,e1,e2,e3,hpr,hu,hw0]
  ·skip
   cases hp:Af (Cr 1 200 n.wait) n.wait.length
   ·obtain⟨hb1,hb2⟩:=hb hp;simp only[hp]at hsz;simp[p89,md,e0,e1,e2,e3,hpr,hu,hw0];rw[hsz]
    ·simp[hb1,hb2]
    ·simp
    ·simp[hpr,hu,hw0]
   ·simp only[hp]at hsz;simp[p89,md,e0,e1,e2,e3,hpr,hu,hw0];rw[hsz]
    ·cases hok:(Ak n.sl).2.2
     ·rw[hok]at e4;simp[b89_0,md,e4]
     ·rw[hok]at e4;simp[b89_0,md,e4,e5,hpr,hu,hw0]
    ·simp
    ·simp[hpr,hu,hw0]
  ·simp[p89,md,e0,e1,e2,e3,hpr,hu,hw0]
  ·by_cases hid:n.id=2
   ·simp[p89,md,e0,e1,e2,e3,hpr,hu,hw0,eq_true hid]
   ·skip
    cases hp:Af (Cr 1 200 n.wait) n.wait.length
    ·obtain⟨hb1,hb2⟩:=hb hp;simp only[hp]at hsz;simp[p89,md,e0,e1,e2,e3,hpr,hu,hw0,hid];rw[hsz]
     ·simp[hb1,hb2]
     ·simp
     ·simp[hpr,hu,hw0,hid]
    ·simp only[hp]at hsz;simp[p89,md,e0,e1,e2,e3,hpr,hu,hw0,hid];rw[hsz]
     ·cases hok:(Ak n.sl).2.2
      ·rw[hok]at e4;simp[b89_0,md,e4]
      ·rw[hok]at e4;simp[b89_0,md,e4,e5,hpr,hu,hw0,hid]
     ·simp
     ·simp[hpr,hu,hw0,hid]
 ·cases hpr:n.prime<;>cases hu:n.up<;>rw[hpr,hu]at e3
  ·skip
   cases hp:Af (Cr 1 200 n.wait) n.wait.length
   ·obtain⟨hb1,hb2⟩:=hb hp;simp only[hp]at hsz;simp[p89,md,e0,e1,e2,e3,hpr,hu,hw0];rw[hsz]
    ·simp[hb1,hb2]
    ·simp
    ·simp[hpr,hu,hw0]
   ·simp only[hp]at hsz;simp[p89,md,e0,e1,e2,e3,hpr,hu,hw0];rw[hsz]
    ·cases hok:(Ak n.sl).2.2
     ·rw[hok]at e4;simp[b89_0,md,e4]
     ·rw[hok]at e4;simp[b89_0,md,e4,e5,hpr,hu,hw0]
    ·simp
    ·simp[hpr,hu,hw0]
  ·skip
   cases hp:Af (Cr 1 200 n.wait) n.wait.length
   ·obtain⟨hb1,hb2⟩:=hb hp;simp only[hp]at hsz;simp[p89,md,e0,e1,e2,e3,hpr,hu,hw0];rw[hsz]
    ·simp[hb1,hb2]
    ·simp
    ·simp[hpr,hu,hw0]
   ·simp only[hp]at hsz;simp[p89,md,e0,e1,e2,e3,hpr,hu,hw0];rw[hsz]
    ·cases hok:(Ak n.sl).2.2
     ·rw[hok]at e4;simp[b89_0,md,e4]
     ·rw[hok]at e4;simp[b89_0,md,e4,e5,hpr,hu,hw0]
    ·simp
    ·simp[hpr,hu,hw0]
  ·simp[p89,md,e0,e1,e2,e3,hpr,hu,hw0]
  ·by_cases hid:n.id=2
   ·simp[p89,md,e0,e1,e2,e3,hpr,hu,hw0,eq_true hid]
   ·skip
    cases hp:Af (Cr 1 200 n.wait) n.wait.length
    ·obtain⟨hb1,hb2⟩:=hb hp;simp only[hp]at hsz;simp[p89,md,e0,e1,e2,e3,hpr,hu,hw0,hid];rw[hsz]
     ·simp[hb1,hb2]
     ·simp
     ·simp[hpr,hu,hw0,hid]
    ·simp only[hp]at hsz;simp[p89,md,e0,e1,e2,e3,hpr,hu,hw0,hid];rw[hsz]
     ·cases hok:(Ak n.sl).2.2
      ·rw[hok]at e4;simp[b89_0,md,e4]
      ·rw[hok]at e4;simp[b89_0,md,e4,e5,hpr,hu,hw0,hid]
     ·simp
     ·simp[hpr,hu,hw0,hid]
end
end Go.Proofs.YtbolhfegdocpeaaGreat.Ow
