/- Functions evaluated on the small machine: Who may write, lead, hold: what the reference says, Hearing, writing, copying: what the reference makes of a node, and what Ms out, Messages as bytes: what the reference makes. -/
import Derived.Test.YtghgecpicnfgpaaGreatEv10
import Derived.Test.YtghgecpicnfgpaaGreatEv11
namespace Go.Proofs.YtghgecpicnfgpaaGreat.Ow
open Go
set_option linter.unusedVariables false
set_option linter.unusedSimpArgs false
set_option maxHeartbeats 8000000
def E3 (x y:AE):Bool:=AL x&&AL y&&decide (Dd x.id=y.id)
theorem OX [PKI] (x y:AE) (hx:nS x) (hy:nS y):sG 284 [.a (AD (fN x)),.a (AD (fN y))]=some ⟨[.v (.sc (.bool (E3 x y)))],[],[]⟩:=by
 refine sK p284 ?_;have e1:=Ab x hx;have e2:=Ab y hy;have e3:=DQ x.id;simp only[AD,lent,fN]at e1 e2;unfold E3
 cases h1:AL x<;>cases h2:AL y<;>by_cases h3:Dd x.id=y.id<;>simp[p284,  e1,e2,e3,h1,h2,h3]
theorem NI {x y:AE} (h:E3 x y=true):NOk x/\NOk y/\(x.id=0/\y.id=1\/x.id=1/\y.id=0):=by
 unfold E3 Dd at h;simp only[Bool.and_eq_true,decide_eq_true_iff]at h;have nx:=Ai h.1.1;have ny:=Ai h.1.2;refine⟨nx,ny,?_⟩;have h2:=h.2;have:=ny.id0;split at h2
 ·rename_i hb;have:=AP.1 hb;omega
 ·omega
def G7 (x y:AE):Bool:=E3 x y&&x.up&&x.mt.fine&& !x.mt.old&& !x.mt.held&& !x.conn.getD y.id.toNat false&& !y.prime
theorem Mw [PKI] (x y:AE) (hx:nS x) (hy:nS y):sG 260 [.a (AD (fN x)),.a (AD (fN y))]=some ⟨[.v (.sc (.bool (G7 x y)))],[],[]⟩:=by
 refine sK p260 ?_;have e1:=OX x y hx hy;simp only[AD,lent,fN]at e1;unfold G7
 cases h1:E3 x y
 ·simp[p260,  e1,h1]
 obtain⟨nx,ny,_⟩:=NI h1;obtain⟨j,j3,hj⟩:=ny.nat;obtain⟨cx,q1,hc,hc',hcd⟩:=Aj x.conn (j:=j) (by have:=nx.conn;omega);simp only[hj]at e1 ⊢;simp only[Int.toNat_natCast,hcd]
 cases h2:x.up<;>rw[h2]at e1
 ·simp[p260,  e1,h1,h2,hj]
 cases h3:x.mt.fine<;>rw[h3]at e1
 ·simp[p260,  e1,h1,h2,h3,hj]
 cases h4:x.mt.old<;>rw[h4]at e1
 case true=>simp[p260,  e1,h1,h2,h3,h4,hj]
 cases h5:x.mt.held<;>rw[h5]at e1
 case true=>simp[p260,  e1,h1,h2,h3,h4,h5,hj]
 cases cx<;>simp[p260,  e1,h1,h2,h3,h4,h5,hj,q1,hc']
def Dh (x:AE):Bool:=AL x&&x.prime&&(x.conn.getD (Dd x.id).toNat false||x.mt.held)
theorem L2 [PKI] (x:AE) (hx:nS x):sG 216 [.a (AD (fN x))]=some ⟨[.v (.sc (.bool (Dh x)))],[],[]⟩:=by
 refine sK p216 ?_;have e1:=Ab x hx;have e2:=DQ x.id;simp only[AD,lent,fN]at e1;unfold Dh
 cases h1:AL x
 ·simp[p216,  e1,h1]
 have nx:=Ai h1
 cases h2:x.prime
 ·rw[h2]at e1;simp[p216,  e1,h1,h2]
 have h3:=nx.prime h2;have h4:x.id=0\/x.id=1:=by have:=nx.id0;have:=nx.id2;omega
 obtain⟨k,k2,hk⟩: ∃k:Nat,k<2/\Dd x.id=(k:Int):=by
  rcases h4 with h4|h4
  ·exact⟨1,by omega,by rw[h4];rfl⟩
  ·exact⟨0,by omega,by rw[h4];rfl⟩
 obtain⟨cx,q1,hc,hc',hcd⟩:=Aj x.conn (j:=k) (by have:=nx.conn;omega);rw[hk]at e2 ⊢;simp only[Int.toNat_natCast,hcd];rw[h2]at e1
 cases cx<;>cases h5:x.mt.held<;>rw[h5]at e1<;>simp[p216,  e1,e2,h1,h2,h5,q1,hc']
def Fa (x:AE):AE×Bool:=if AL x&&x.prime then({x with prime:=false,wait:=[]},true)else(x,false)
theorem PU [PKI] (x:AE) (hx:nS x):sG 228 [.a (AD (fN x))]=some ⟨[.a (AA (fN (Fa x).1)),.v (.sc (.bool (Fa x).2))],[],[]⟩:=by
 refine sK p228 ?_;have e1:=Ab x hx;have e2:=B5 x hx;simp only[AD,lent,fN,AA,AJ]at e1 e2;unfold Fa
 cases h1:AL x
 ·simp[p228,  e1,e2,h1]
 cases h2:x.prime<;>rw[h2]at e1 e2<;>simp[p228,  e1,e2,h1,h2]
def G6 (x y:AE) (quiet:Bool):Bool:=
 E3 x y&&x.up&&x.mt.fine&& !x.mt.old&& !x.prime&&(x.mt.held||x.conn.getD y.id.toNat false&&y.conn.getD x.id.toNat false&& !x.copies.getD y.id.toNat false&& !y.copies.getD x.id.toNat false&& !y.prime&&decide (x.mt.last=y.mt.last)&&quiet)
theorem Mv [PKI] (x y:AE) (quiet:Bool) (hx:nS x) (hy:nS y):sG 262 [.a (AD (fN x)),.a (AD (fN y)),.v (.sc (.bool quiet))]=some ⟨[.v (.sc (.bool (G6 x y quiet)))],[],[]⟩:=by
 refine sK p262 ?_;have e1:=OX x y hx hy;simp only[AD,lent,fN]at e1;unfold G6
 cases h1:E3 x y
 ·simp[p262,  e1,h1]
 obtain⟨nx,ny,_⟩:=NI h1;obtain⟨i,i3,hi⟩:=nx.nat;obtain⟨j,j3,hj⟩:=ny.nat;obtain⟨c1,q1,_,c1',d1⟩:=Aj x.conn (j:=j) (by have:=nx.conn;omega);obtain⟨c2,q2,_,c2',d2⟩:=Aj y.conn (j:=i) (by have:=ny.conn;omega);obtain⟨c3,q3,_,c3',d3⟩:=Aj x.copies (j:=j) (by have:=nx.copies;omega);obtain⟨c4,q4,_,c4',d4⟩:=Aj y.copies (j:=i) (by have:=ny.copies;omega);simp only[hi,hj]at e1 ⊢;simp only[Int.toNat_natCast,d1,d2,d3,d4]
 cases h2:x.up<;>rw[h2]at e1
 ·simp[p262,  e1,h1,h2,hi,hj]
 cases h3:x.mt.fine<;>rw[h3]at e1
 ·simp[p262,  e1,h1,h2,h3,hi,hj]
 cases h4:x.mt.old<;>rw[h4]at e1
 case true=>simp[p262,  e1,h1,h2,h3,h4,hi,hj]
 cases h5:x.prime<;>rw[h5]at e1
 case true=>simp[p262,  e1,h1,h2,h3,h4,h5,hi,hj]
 cases h6:x.mt.held<;>rw[h6]at e1
 case true=>simp[p262,  e1,h1,h2,h3,h4,h5,h6,hi,hj]
 cases c1
 ·simp[p262,  e1,h1,h2,h3,h4,h5,h6,hi,hj,q1,c1']
 cases c2
 ·simp[p262,  e1,h1,h2,h3,h4,h5,h6,hi,hj,q1,c1',q2,c2']
 cases c3
 case true=>simp[p262,  e1,h1,h2,h3,h4,h5,h6,hi,hj,q1,c1',q2,c2',q3,c3']
 cases c4
 case true=>simp[p262,  e1,h1,h2,h3,h4,h5,h6,hi,hj,q1,c1',q2,c2',q3,c3',q4,c4']
 cases h7:y.prime<;>rw[h7]at e1
 case true=>simp[p262,  e1,h1,h2,h3,h4,h5,h6,h7,hi,hj,q1,c1',q2,c2',q3,c3',q4,c4']
 by_cases h8:x.mt.last=y.mt.last
 ·simp[p262,  e1,h1,h2,h3,h4,h5,h6,h7,eq_true h8,hi,hj,q1,c1',q2,c2',q3,c3',q4,c4']
 ·simp[p262,  e1,h1,h2,h3,h4,h5,h6,h7,h8,hi,hj,q1,c1',q2,c2',q3,c3',q4,c4']
def Hz (x y:AE) (quiet:Bool):AE×Bool:=if G6 x y quiet then({x with prime:=true},true)else(x,false)
theorem Q2 [PKI] (x y:AE) (quiet:Bool) (hx:nS x) (hy:nS y):sG 227 [.a (AD (fN x)),.a (AD (fN y)),.v (.sc (.bool quiet))]=some ⟨[.a (AA (fN (Hz x y quiet).1)),.v (.sc (.bool (Hz x y quiet).2))],[],[]⟩:=by
 refine sK p227 ?_;have e1:=Mv x y quiet hx hy;have e2:=B5 x hx;simp only[AD,lent,fN,AA,AJ]at e1 e2;unfold Hz
 cases h1:G6 x y quiet<;>simp[p227,  e1,e2,h1]
def Kn (x:AE) (gen:Int):AE:={A7 x {x.mt with held:=true,gens:=CE x.mt.gens gen} with wait:=[]}
def P7 (y:AE):AE:=A7 y {y.mt with old:=true,held:=false}
def FG (x y:AE) (gen:Int):AE×AE×Bool:=
 if G7 x y&& !decide (gen∈x.mt.gens)&&inB gen 1 100000&&AL (Kn x gen)&&AL (P7 y)then(Kn x gen,P7 y,true)else(x,y,false)
theorem F2 (g:LI) (n:Int):(CE g n).length<=g.length+12:=by
 unfold CE;split
 ·rw[List.length_take];omega
 ·omega
theorem Q3 [PKI] (x y:AE) (gen:Int) (hx:nB x) (hy:nB y) (hg:x.mt.gens.length<=900):sG 225 [.a (AD (fN x)),.a (AD (fN y)),.v (.sc (I6 gen))]=some ⟨[.a (AA (fN (FG x y gen).1)),.a (AA (fN (FG x y gen).2.1)),.v (.sc (.bool (FG x y gen).2.2))],[],[]⟩:=by
 refine sK p225 ?_;have e0:=Mw x y hx.nS hy.nS;have e1:=B5 x hx.nS;have e2:=B5 y hy.nS;have e3:=Cq x.mt.gens gen (by omega);have e4:=Ao gen 1 100000;have e5:=Cc x.mt hx.mt;have e6:=Cc y.mt hy.mt;have e7:=HU x.mt.gens gen (by omega);have gl:=F2 x.mt.gens gen;have kx:=Dq hx {x.mt with held:=true,gens:=CE x.mt.gens gen} (by simp only;omega) hx.bits hx.bit;have ky:=Dq hy {y.mt with old:=true,held:=false} hy.gens hy.bits hy.bit;have e8:=DS x {x.mt with held:=true,gens:=CE x.mt.gens gen} hx.sl kx.mt;have e9:=DS y {y.mt with old:=true,held:=false} hy.sl ky.mt;have hA:nB (Kn x gen):=⟨kx.image,kx.gens,kx.bits,kx.bit,kx.sl,kx.conn,kx.sync,kx.syn,kx.copies,by simp[Kn]⟩;have e10:=Ab (Kn x gen) hA.nS;have e11:=Ab (P7 y) ky.nS;unfold FG;unfold P7 at*;have hAe:Kn x gen={A7 x {x.mt with held:=true,gens:=CE x.mt.gens gen} with wait:=[]}:=rfl;rw[hAe]at e10 ⊢;generalize A7 x {x.mt with held:=true,gens:=CE x.mt.gens gen}=qa at*;generalize A7 y {y.mt with old:=true,held:=false}=qb at*;simp only[AD,lent,fN,fM,AA,AJ,kpA]at e0 e1 e2 e3 e5 e6 e7 e8 e9 e10 e11;rw[BA]at e10
 cases h0:G7 x y
 ·simp[p225,  e0,e1,e2,h0]
 by_cases h1:gen∈x.mt.gens
 ·simp[p225,  e0,e1,e2,e3,h0,h1]
 cases h2:inB gen 1 100000
 ·simp[p225,  e0,e1,e2,e3,e4,h0,h1,h2]
 generalize CE x.mt.gens gen=gp at*
 cases h3:AL {qa with wait:=[]}
 ·simp[p225,  e0,e1,e2,e3,e4,e5,e6,e7,e8,e9,e10,h0,h1,h2,h3]
 cases h4:AL qb
 ·simp[p225,  e0,e1,e2,e3,e4,e5,e6,e7,e8,e9,e10,e11,h0,h1,h2,h3,h4]
 ·simp[p225,  e0,e1,e2,e3,e4,e5,e6,e7,e8,e9,e10,e11,h0,h1,h2,h3,h4]
def JE (n:AE) (src:Int) (m:A2):Bool:=AL n&&C3 m&&inB src 0 2&&n.conn.getD src.toNat false&& !(decide (m.kind=5)&&decide (m.gens.length=0))
def Di (n:AE) (src:Int) (m:A2):AE×List Bz:=if JE n src m&&AL (D3 n src m).1 then D3 n src m else(n,[])
theorem Iz {n:AE} {src cell val:Int} (hn:nB n) (hbl: ∀x∈n.mt.bits,x.length<=800):nB (BO n src cell val):=by
 have h:=NG (src:=src) (cell:=cell) (val:=val) hn hbl;exact⟨h.image,h.gens,h.bits,h.bit,CZ hn.sl _,h.conn,h.sync,h.syn,h.copies,h.wait⟩
theorem SJ {n:AE} {src:Int} {m:A2} (hn:nB n) (hbl: ∀x∈n.mt.bits,x.length<=800) (hm:m.gens.length<=1000):nB (D3 n src m).1:=by
 unfold D3;split
 ·exact Iz hn hbl
 ·split
  ·exact NG hn hbl
  ·split
   ·exact Dq hn (IJ n m) hm hn.bits hn.bit
   ·split
    ·exact NO hn
    ·split
     ·exact hn
     ·exact Gd hn
theorem Q4 [PKI] (n:AE) (src:Int) (m:A2) (hn:nB n) (hbl: ∀x∈n.mt.bits,x.length<=800) (hm:m.gens.length<=1048576):sG 213 [.a (AD (fN n)),.v (.sc (I6 src)),.a (AD (fMs m))]=some ⟨[.a (AA (fN (Di n src m).1)),.v (.own 7 (enc fP (Di n src m).2))],[],[]⟩:=by
 refine sK p213 ?_;have e1:=Ab n hn.nS;have e2:=JH m hm;have e3:=Ao src 0 2;have e4:=B5 n hn.nS;simp only[AD,lent,fN,fMs,AA,AJ]at e1 e2 e4;unfold Di JE
 cases h1:AL n
 ·simp[p213,  e1,e4,h1]
 cases h2:C3 m
 ·simp[p213,  e1,e2,e4,h1,h2]
 cases h3:inB src 0 2
 ·simp[p213,  e1,e2,e3,e4,h1,h2,h3]
 have r3:=AP.1 h3;obtain⟨k,rfl⟩: ∃k:Nat,src=(k:Int):=⟨src.toNat,by omega⟩;obtain⟨c,q1,hc,hc',hcd⟩:=Aj n.conn (j:=k) (by have:=hn.conn;omega);simp only[Int.toNat_natCast,hcd]
 cases c
 ·simp[p213,  e1,e2,e3,e4,h1,h2,h3,q1,hc']
 have mg:=G5 h2;obtain⟨fin,hfin,e5⟩:=Tq n (k:Int) m hn hbl h2;have hB:=SJ (src:=(k:Int)) (m:=m) hn hbl (by omega);have e6:=Ab (D3 n (k:Int) m).1 hB.nS;unfold VV Ly GG Lx at hfin;simp only[AD,lent,fN,fMs,AA,AJ]at e5 e6;generalize D3 n (k:Int) m=q at*;by_cases h5:m.kind=5/\m.gens.length=0
 ·simp[p213,  e1,e2,e3,e4,h1,h2,h3,q1,hc',eq_true h5.1,h5.2]
 have h6:(decide (m.kind=5)&&decide (m.gens.length=0))=false:=by
  cases ha:decide (m.kind=5)<;>cases hb:decide (m.gens.length=0)<;>simp at ha hb ⊢
  exact h5 ⟨ha,by simp[hb]⟩
 rw[h6]
 cases h7:AL q.1
 ·rw[h7]at e6;by_cases h5a:m.kind=5
  ·have h5b: ¬m.gens.length=0:=λh=>h5 ⟨h5a,h⟩
   rcases hfin with rfl|rfl|rfl|rfl<;>simp (maxSteps:=9999999) [p213,  e1,e2,e3,e4,e5,e6,h1,h2,h3,q1,hc',eq_true h5a,h5b]
  ·rcases hfin with rfl|rfl|rfl|rfl<;>simp (maxSteps:=9999999) [p213,  e1,e2,e3,e4,e5,e6,h1,h2,h3,q1,hc',h5a]
 ·rw[h7]at e6;by_cases h5a:m.kind=5
  ·have h5b: ¬m.gens.length=0:=λh=>h5 ⟨h5a,h⟩
   rcases hfin with rfl|rfl|rfl|rfl<;>simp (maxSteps:=9999999) [p213,  e1,e2,e3,e4,e5,e6,h1,h2,h3,q1,hc',eq_true h5a,h5b]
  ·rcases hfin with rfl|rfl|rfl|rfl<;>simp (maxSteps:=9999999) [p213,  e1,e2,e3,e4,e5,e6,h1,h2,h3,q1,hc',h5a]
def Mq (a:Int×Int) (x:Int):Int×Int:=((a.1+x)%65521,(a.2+(a.1+x)%65521)%65521)
def Gx (b:LI):Int×Int:=b.foldl Mq (1,0)
def I8 (b:LI):Int:=(Gx b).2*65536+(Gx b).1
theorem M8 (b:LI):0<=(Gx b).1/\(Gx b).1<65521/\0<=(Gx b).2/\(Gx b).2<65521:=by
 unfold Gx
 suffices h: ∀ (b:LI) (a:Int×Int),(0<=a.1/\a.1<65521/\0<=a.2/\a.2<65521)->0<=(b.foldl Mq a).1/\(b.foldl Mq a).1<65521/\0<=(b.foldl Mq a).2/\(b.foldl Mq a).2<65521 from h b (1,0) (by decide)
 intro b
 induction b with
 |nil=>intro a h;exact h
 |cons x b ih=>
  intro a h;refine ih _ ?_;unfold Mq;simp only;omega
@[simp] def st140 (b:LI) (a:Int×Int) (j:Nat):St:={n:=28,m:=0,tm:=[(0,.im 1 (enc fU b)),(3,.sc (I6 a.1)),(4,.sc (I6 a.2)),(5,.sc (I6 j))],ob:=[]}
theorem PS [PKI] (b:LI) (hb:byt b):sG 140 [.v (.im 1 (enc fU b))]=some ⟨[.v (.sc (I6 (I8 b)))],[],[]⟩:=by
 refine sK p140 ?_;have hs:= @lok _ 10000000 [0,3,4,5] b140_0 (λj=>st140 b (Gx (b.take j)) j) b.length (λj hj=>by
  obtain⟨x,hx⟩:=AF hj;obtain⟨_,hx'⟩:=BT hx;have hxb:=hb.2 x (List.mem_of_getElem? hx);have hinc:=Ar hj hb.1;have hbd:=M8 (b.take j);have hsu:Gx (b.take (j+1))=Mq (Gx (b.take j)) x:=Bi Mq (1,0) b hx;simp only[hsu];generalize Gx (b.take j)=a at hbd ⊢;obtain⟨u,v⟩:=a;simp only at hbd;have w0:IntKind.wrap .i64 x=x:=AC (by omega) (by omega);have w1:IntKind.wrap .i64 (u+x)=u+x:=AC (by omega) (by omega);have t1:(u+x).tmod 65521=(u+x)%65521:=Int.tmod_eq_emod_of_nonneg (by omega);obtain⟨q,hq⟩: ∃q,q=(u+x)%65521:=⟨_,rfl⟩;have hq1:0<=q/\q<65521:=by omega
  have w2:IntKind.wrap .i64 q=q:=AC (by omega) (by omega);have w3:IntKind.wrap .i64 (v+q)=v+q:=AC (by omega) (by omega);have t2:(v+q).tmod 65521=(v+q)%65521:=Int.tmod_eq_emod_of_nonneg (by omega);obtain⟨r,hr⟩: ∃r,r=(v+q)%65521:=⟨_,rfl⟩;have w4:IntKind.wrap .i64 r=r:=AC (by omega) (by omega);simp[b140_0,  hj,hx',hinc,w0,w1,t1,<-hq,w2,w3,t2,<-hr,w4,Mq]) (by simp[b140_0])
 have hf:b.take b.length=b:=List.take_length;have hbd:=M8 b;unfold I8;generalize hg:Gx b=a at*;obtain⟨u,v⟩:=a;simp only at hbd;have w1:IntKind.wrap .i64 (v*65536)=v*65536:=AC (by omega) (by omega);have w2:IntKind.wrap .i64 (v*65536+u)=v*65536+u:=AC (by omega) (by omega);simp[p140];rw[hs]
 ·simp[b140_0,hf,hg,w1,w2]
 ·simp
 ·simp[Gx]
def body (m:A2):LI:=pns [m.kind,m.cell,m.val,m.who,m.gens.length]++pns m.gens
def Av (m:A2):LI:=if C3 m then Ae (body m).length++body m++ET (I8 (body m))else []
structure MsB (m:A2):Prop where
 k:1<=m.kind/\m.kind<=5
 c:0<=m.cell/\m.cell<=7
 v:0<=m.val/\m.val<=200
 w:0<=m.who/\m.who<=2
 g:m.gens.length<=12
 gb: ∀x∈m.gens,1<=x/\x<=100000
 g0:m.kind≠5->m.gens=[]
theorem Qo {m:A2} (h:C3 m=true):MsB m:=by
 have hg:=G5 h;unfold C3 at h;split at h
 ·rename_i h5;simp only[Bool.and_eq_true,decide_eq_true_iff]at h;have hv:=AP.1 h.1.1.2;exact⟨by omega,by omega,hv,by omega,hg,gn_bd h.1.1.1,λhk=>absurd h5 hk⟩
 ·split at h
  ·rename_i h5 hk;simp only[Bool.and_eq_true,decide_eq_true_iff,Bool.or_eq_true]at h;have hn:m.gens=[]:=List.eq_nil_of_length_eq_zero h.1.1.1;have hc:=AP.1 h.1.1.2;have hv:=AP.1 h.1.2;have hb:bit (decide (m.kind=4)||decide (m.kind=2)) 1<=1:=by unfold bit;split<;>omega
   have hw:0<=m.who/\m.who<=2:=by
    rcases h.2 with h2|h2
    ·exact AP.1 h2.2
    ·omega
   exact⟨by omega,hc,by omega,hw,hg,(by rw[hn];intro x hx;cases hx),λ_=>hn⟩
  ·cases h
theorem MsB.head {m:A2} (h:MsB m):inU [m.kind,m.cell,m.val,m.who,(m.gens.length:Int)]:=λx hx=>by
 have h1:=h.k;have h2:=h.c;have h3:=h.v;have h4:=h.w;have h5:=h.g;simp only[List.mem_cons,List.not_mem_nil,or_false]at hx;rcases hx with rfl|rfl|rfl|rfl|rfl<;>omega
theorem MsB.tail {m:A2} (h:MsB m):inU m.gens:=λx hx=>by have:=h.gb x hx;omega
theorem LP {m:A2} (h:MsB m):(body m).length<=85:=by
 unfold body;have h1:=EH _ h.head;have h2:=EH _ h.tail;have:=h.g;rw[List.length_append];simp only[List.length_cons,List.length_nil]at h1;omega
@[simp] def st137_1 (m:A2) (l:LI) (j:Nat):St:={n:=49,m:=0,tm:=[(1,.pb 10000000 0),(3,.ref 10000001 []),(4,.ref 10000002 []),(5,.sc (I6 j))],ob:=[(10000000,.box [.sc (I6 m.kind),.sc (I6 m.cell),.sc (I6 m.val),.sc (I6 m.who),.im 1 (enc fI m.gens)]),(10000001,.arr 1 (enc fU (pns (l.take j)))),(10000002,.arr 1 (enc fI l))]}
@[simp] def st137_0 (m:A2) (o:LI) (j:Nat):St:={n:=49,m:=0,tm:=[(1,.pb 10000200 0),(3,.ref 10000201 []),(6,.sc (I6 j))],ob:=[(10000200,.box [.sc (I6 m.kind),.sc (I6 m.cell),.sc (I6 m.val),.sc (I6 m.who),.im 1 (enc fI m.gens)]),(10000201,.arr 1 (enc fU (o++pns (m.gens.take j))))]}
theorem Vb [PKI] (m:A2) (hm:MsB m):sG 137 [.a (AD (fMs m))]=some ⟨[.v (.own 1 (enc fU (body m)))],[],[]⟩:=by
 refine sK p137 ?_;obtain⟨l,hl⟩: ∃l,l=[m.kind,m.cell,m.val,m.who,(m.gens.length:Int)]:=⟨_,rfl⟩;have hll:l.length=5:=by rw[hl];rfl
 have hlu:inU l:=by rw[hl];exact hm.head
 have h1:= @lok _ 10000000 [1,3,4,5] b137_1 (λj=>st137_1 m l j) l.length (λj hj=>by
  obtain⟨x,_,hx,hx',hd⟩:=AK l hj;obtain⟨u0,u1⟩:=hlu x (List.mem_of_getElem? hx);have e:=BY x u0 u1;have hpt:=Hl l hx;have hlen:=EH (l.take j) (H1 hlu j);have hlj:(l.take j).length=j:=by rw[List.length_take];omega
  have hap:enc fU (pns (l.take j))++enc fU (Ae x)=enc fU (pns (l.take (j+1))):=by rw[hpt,AU]
  have hp5:=A5 u0 u1;have hb:(pns (l.take j)).length+(Ae x).length<=35184372088832:=by omega
  have hinc:=Ar hj (by omega);simp[b137_1,  hj,hx',e,hap,hb,hinc]) (by simp[b137_1])
 have hgu:=hm.tail;have hpl:=EH l hlu;have h0:= @lok _ 10000200 [1,3,6] b137_0 (λj=>st137_0 m (pns l) j) m.gens.length (λj hj=>by
  obtain⟨x,_,hx,hx',hd⟩:=AK m.gens hj;obtain⟨u0,u1⟩:=hgu x (List.mem_of_getElem? hx);have e:=BY x u0 u1;have hpt:=Hl m.gens hx;have hlen:=EH (m.gens.take j) (H1 hgu j);have hlj:(m.gens.take j).length=j:=by rw[List.length_take];omega
  have:=hm.g;have hap:enc fU (pns l++pns (m.gens.take j))++enc fU (Ae x)=enc fU (pns l++pns (m.gens.take (j+1))):=by rw[hpt,AU,List.append_assoc]
  have hp5:=A5 u0 u1;have hinc:=Ar hj (by omega);generalize hq:pns l++pns (m.gens.take j)=q at hap ⊢;have hql:q.length<=100:=by rw[<-hq,List.length_append];omega
  have hb:q.length+(Ae x).length<=35184372088832:=by omega
  simp[b137_0,  hj,hx',e,hap,hb,hinc,hq]) (by simp[b137_0])
 have hz:pns []=[]:=rfl;have hf:m.gens.take m.gens.length=m.gens:=List.take_length;have hf1:l.take l.length=l:=List.take_length;unfold body;rw[<-hl];simp[p137];rw[h1]
 ·simp[b137_1];rw[h0]
  ·simp[b137_0]
  ·simp
  ·simp[hz,hf1]
 ·simp
 ·simp[hz,hl]
theorem DN (m:A2):(Av m).length<=94:=by
 unfold Av;split
 ·rename_i h;have h1:=LP (Qo h);have h2:=A5 (n:=(body m).length) (by omega) (by omega);rw[List.length_append,List.length_append,SM];omega
 ·simp
theorem four_by (n:Int):by8 (ET n):=λx hx=>by
 simp only[ET,List.mem_cons,List.not_mem_nil,or_false]at hx;omega
theorem RY (m:A2):by8 (body m):=By (TL _) (TL _)
theorem Eo (m:A2):by8 (Av m):=by
 unfold Av;split
 ·exact By (By (GT _) (RY m)) (four_by _)
 ·intro x hx;cases hx
theorem DP [PKI] (m:A2) (hm:m.gens.length<=1048576):sG 88 [.a (AD (fMs m))]=some ⟨[.v (.own 1 (enc fU (Av m)))],[],[]⟩:=by
 refine sK p88 ?_;have e1:=JH m hm;simp only[AD,lent,fMs]at e1;unfold Av
 cases h:C3 m
 ·simp[p88,  e1,h]
 have hb:=Qo h;have bl:=LP hb;have e2:=Vb m hb;have e3:=BY (body m).length (by omega) (by omega);have e4:=PS (body m) ⟨by omega,RY m⟩;have e5:=SW (I8 (body m));have pl:=A5 (n:=(body m).length) (by omega) (by omega);simp only[AD,lent,fMs]at e2;generalize body m=b at*;generalize hp:Ae (b.length:Int)=p at*;generalize hf:ET (I8 b)=f at*;have hfl:f.length=4:=by rw[<-hf];rfl
 have g1:p.length+b.length<=35184372088832:=by omega
 have g2:p.length+b.length+f.length<=35184372088832:=by omega
 have g3:p.length+(b.length+f.length)<=35184372088832:=by omega
 simp[p88,  e1,e2,e3,e4,e5,h,g1,g2,g3];simp[enc]
end Go.Proofs.YtghgecpicnfgpaaGreat.Ow
