/- Functions evaluated on the small machine: Who may write, lead, hold: what the reference says, Hearing, writing, copying: what the reference makes of a node, and what Mu out. -/
import Derived.Test.YtbolhfegdocpeaaGreatEv12
import Derived.Test.YtbolhfegdocpeaaGreatEv13
namespace Go.Proofs.YtbolhfegdocpeaaGreat.Ow
open Go
set_option linter.unusedVariables false
set_option linter.unusedSimpArgs false
set_option maxHeartbeats 8000000
variable {PK:Nat->List Arg->Option Res}
def Gl (x y:AG):Bool:=Am x&&Am y&&decide (GI x.id=y.id)
theorem MJ (x y:AG) (hx:nS x) (hy:nS y):AH G PK md 250 [.a (AJ (fN x)),.a (AJ (fN y))]=some ⟨[.v (.sc (.bool (Gl x y)))],[],[]⟩:=by
 refine AA (pf:=p250) rfl (by simp[p250]) ?_;have e1:=AZ (PK:=PK) x hx;have e2:=AZ (PK:=PK) y hy;have e3:=Cp (PK:=PK) x.id;simp only[AJ,lent,fN]at e1 e2;unfold Gl
 cases h1:Am x<;>cases h2:Am y<;>by_cases h3:GI x.id=y.id<;>simp[p250,md,e1,e2,e3,h1,h2,h3]
theorem Ra {x y:AG} (h:Gl x y=true):NOk x/\NOk y/\(x.id=0/\y.id=1\/x.id=1/\y.id=0):=by
 unfold Gl GI at h;simp only[Bool.and_eq_true,decide_eq_true_iff]at h;have nx:=A3 h.1.1;have ny:=A3 h.1.2;refine⟨nx,ny,?_⟩;have h2:=h.2;have:=ny.id0;split at h2
 ·rename_i hb;have:=Ab.1 hb;omega
 ·omega
def Kl (x y:AG):Bool:=Gl x y&&x.up&&x.mt.fine&& !x.mt.old&& !x.mt.held&& !x.conn.getD y.id.toNat false&& !y.prime
theorem KV (x y:AG) (hx:nS x) (hy:nS y):AH G PK md 234 [.a (AJ (fN x)),.a (AJ (fN y))]=some ⟨[.v (.sc (.bool (Kl x y)))],[],[]⟩:=by
 refine AA (pf:=p234) rfl (by simp[p234]) ?_;have e1:=MJ (PK:=PK) x y hx hy;simp only[AJ,lent,fN]at e1;unfold Kl
 cases h1:Gl x y
 ·simp[p234,md,e1,h1]
 obtain⟨nx,ny,_⟩:=Ra h1;obtain⟨j,j3,hj⟩:=ny.nat;obtain⟨cx,q1,hc,hc',hcd⟩:=A1 x.conn (j:=j) (by have:=nx.conn;omega);simp only[hj]at e1 ⊢;simp only[Int.toNat_natCast,hcd]
 cases h2:x.up<;>rw[h2]at e1
 ·simp[p234,md,e1,h1,h2,hj]
 cases h3:x.mt.fine<;>rw[h3]at e1
 ·simp[p234,md,e1,h1,h2,h3,hj]
 cases h4:x.mt.old<;>rw[h4]at e1
 case true=>simp[p234,md,e1,h1,h2,h3,h4,hj]
 cases h5:x.mt.held<;>rw[h5]at e1
 case true=>simp[p234,md,e1,h1,h2,h3,h4,h5,hj]
 cases cx<;>simp[p234,md,e1,h1,h2,h3,h4,h5,hj,q1,hc']
def EY (x:AG):Bool:=Am x&&x.prime&&(x.conn.getD (GI x.id).toNat false||x.mt.held)
theorem Jl (x:AG) (hx:nS x):AH G PK md 204 [.a (AJ (fN x))]=some ⟨[.v (.sc (.bool (EY x)))],[],[]⟩:=by
 refine AA (pf:=p204) rfl (by simp[p204]) ?_;have e1:=AZ (PK:=PK) x hx;have e2:=Cp (PK:=PK) x.id;simp only[AJ,lent,fN]at e1;unfold EY
 cases h1:Am x
 ·simp[p204,md,e1,h1]
 have nx:=A3 h1
 cases h2:x.prime
 ·rw[h2]at e1;simp[p204,md,e1,h1,h2]
 have h3:=nx.prime h2;have h4:x.id=0\/x.id=1:=by have:=nx.id0;have:=nx.id2;omega
 obtain⟨k,k2,hk⟩: ∃k:Nat,k<2/\GI x.id=(k:Int):=by
  rcases h4 with h4|h4
  ·exact⟨1,by omega,by rw[h4];rfl⟩
  ·exact⟨0,by omega,by rw[h4];rfl⟩
 obtain⟨cx,q1,hc,hc',hcd⟩:=A1 x.conn (j:=k) (by have:=nx.conn;omega);rw[hk]at e2 ⊢;simp only[Int.toNat_natCast,hcd];rw[h2]at e1
 cases cx<;>cases h5:x.mt.held<;>rw[h5]at e1<;>simp[p204,md,e1,e2,h1,h2,h5,q1,hc']
def IF (x:AG):AG×Bool:=if Am x&&x.prime then({x with prime:=false,wait:=[]},true)else(x,false)
theorem Mz (x:AG) (hx:nS x):AH G PK md 216 [.a (AJ (fN x))]=some ⟨[.a (AD (fN (IF x).1)),.v (.sc (.bool (IF x).2))],[],[]⟩:=by
 refine AA (pf:=p216) rfl (by simp[p216]) ?_;have e1:=AZ (PK:=PK) x hx;have e2:=Bo (PK:=PK) x hx;simp only[AJ,lent,fN,AD,AX]at e1 e2;unfold IF
 cases h1:Am x
 ·simp[p216,md,e1,e2,h1]
 cases h2:x.prime<;>rw[h2]at e1 e2<;>simp[p216,md,e1,e2,h1,h2]
def Kk (x y:AG) (quiet:Bool):Bool:=
 Gl x y&&x.up&&x.mt.fine&& !x.mt.old&& !x.prime&&(x.mt.held||x.conn.getD y.id.toNat false&&y.conn.getD x.id.toNat false&& !x.copies.getD y.id.toNat false&& !y.copies.getD x.id.toNat false&& !y.prime&&decide (x.mt.last=y.mt.last)&&quiet)
theorem KU (x y:AG) (quiet:Bool) (hx:nS x) (hy:nS y):AH G PK md 236 [.a (AJ (fN x)),.a (AJ (fN y)),.v (.sc (.bool quiet))]=some ⟨[.v (.sc (.bool (Kk x y quiet)))],[],[]⟩:=by
 refine AA (pf:=p236) rfl (by simp[p236]) ?_;have e1:=MJ (PK:=PK) x y hx hy;simp only[AJ,lent,fN]at e1;unfold Kk
 cases h1:Gl x y
 ·simp[p236,md,e1,h1]
 obtain⟨nx,ny,_⟩:=Ra h1;obtain⟨i,i3,hi⟩:=nx.nat;obtain⟨j,j3,hj⟩:=ny.nat;obtain⟨c1,q1,_,c1',d1⟩:=A1 x.conn (j:=j) (by have:=nx.conn;omega);obtain⟨c2,q2,_,c2',d2⟩:=A1 y.conn (j:=i) (by have:=ny.conn;omega);obtain⟨c3,q3,_,c3',d3⟩:=A1 x.copies (j:=j) (by have:=nx.copies;omega);obtain⟨c4,q4,_,c4',d4⟩:=A1 y.copies (j:=i) (by have:=ny.copies;omega);simp only[hi,hj]at e1 ⊢;simp only[Int.toNat_natCast,d1,d2,d3,d4]
 cases h2:x.up<;>rw[h2]at e1
 ·simp[p236,md,e1,h1,h2,hi,hj]
 cases h3:x.mt.fine<;>rw[h3]at e1
 ·simp[p236,md,e1,h1,h2,h3,hi,hj]
 cases h4:x.mt.old<;>rw[h4]at e1
 case true=>simp[p236,md,e1,h1,h2,h3,h4,hi,hj]
 cases h5:x.prime<;>rw[h5]at e1
 case true=>simp[p236,md,e1,h1,h2,h3,h4,h5,hi,hj]
 cases h6:x.mt.held<;>rw[h6]at e1
 case true=>simp[p236,md,e1,h1,h2,h3,h4,h5,h6,hi,hj]
 cases c1
 ·simp[p236,md,e1,h1,h2,h3,h4,h5,h6,hi,hj,q1,c1']
 cases c2
 ·simp[p236,md,e1,h1,h2,h3,h4,h5,h6,hi,hj,q1,c1',q2,c2']
 cases c3
 case true=>simp[p236,md,e1,h1,h2,h3,h4,h5,h6,hi,hj,q1,c1',q2,c2',q3,c3']
 cases c4
 case true=>simp[p236,md,e1,h1,h2,h3,h4,h5,h6,hi,hj,q1,c1',q2,c2',q3,c3',q4,c4']
 cases h7:y.prime<;>rw[h7]at e1
 case true=>simp[p236,md,e1,h1,h2,h3,h4,h5,h6,h7,hi,hj,q1,c1',q2,c2',q3,c3',q4,c4']
 by_cases h8:x.mt.last=y.mt.last
 ·simp[p236,md,e1,h1,h2,h3,h4,h5,h6,h7,eq_true h8,hi,hj,q1,c1',q2,c2',q3,c3',q4,c4']
 ·simp[p236,md,e1,h1,h2,h3,h4,h5,h6,h7,h8,hi,hj,q1,c1',q2,c2',q3,c3',q4,c4']
def Lj (x y:AG) (quiet:Bool):AG×Bool:=if Kk x y quiet then({x with prime:=true},true)else(x,false)
theorem OV (x y:AG) (quiet:Bool) (hx:nS x) (hy:nS y):AH G PK md 215 [.a (AJ (fN x)),.a (AJ (fN y)),.v (.sc (.bool quiet))]=some ⟨[.a (AD (fN (Lj x y quiet).1)),.v (.sc (.bool (Lj x y quiet).2))],[],[]⟩:=by
 refine AA (pf:=p215) rfl (by simp[p215]) ?_;have e1:=KU (PK:=PK) x y quiet hx hy;have e2:=Bo (PK:=PK) x hx;simp only[AJ,lent,fN,AD,AX]at e1 e2;unfold Lj
 cases h1:Kk x y quiet<;>simp[p215,md,e1,e2,h1]
def Lq (x:AG) (gen:Int):AG:={Bb x {x.mt with held:=true,gens:=C0 x.mt.gens gen} with wait:=[]}
def Rq (y:AG):AG:=Bb y {y.mt with old:=true,held:=false}
def Gn (x y:AG) (gen:Int):AG×AG×Bool:=
 if Kl x y&& !decide (gen∈x.mt.gens)&&inB gen 1 100000&&Am (Lq x gen)&&Am (Rq y)then(Lq x gen,Rq y,true)else(x,y,false)
theorem Gs (g:List Int) (n:Int):(C0 g n).length<=g.length+12:=by
 unfold C0;split
 ·rw[List.length_take];omega
 ·omega
theorem OW (x y:AG) (gen:Int) (hx:nB x) (hy:nB y) (hg:x.mt.gens.length<=900):AH G PK md 213 [.a (AJ (fN x)),.a (AJ (fN y)),.v (.sc (.int .i64 gen))]=some ⟨[.a (AD (fN (Gn x y gen).1)),.a (AD (fN (Gn x y gen).2.1)),.v (.sc (.bool (Gn x y gen).2.2))],[],[]⟩:=by
 refine AA (pf:=p213) rfl (by simp[p213]) ?_;have e0:=KV (PK:=PK) x y hx.nS hy.nS;have e1:=Bo (PK:=PK) x hx.nS;have e2:=Bo (PK:=PK) y hy.nS;have e3:=Cg (PK:=PK) x.mt.gens gen (by omega);have e4:=Aj (PK:=PK) gen 1 100000;have e5:=B8 (PK:=PK) x.mt hx.mt;have e6:=B8 (PK:=PK) y.mt hy.mt;have e7:=GE (PK:=PK) x.mt.gens gen (by omega);have gl:=Gs x.mt.gens gen;have kx:=Es hx {x.mt with held:=true,gens:=C0 x.mt.gens gen} (by simp only;omega) hx.bits hx.bit;have ky:=Es hy {y.mt with old:=true,held:=false} hy.gens hy.bits hy.bit;have e8:=Cq (PK:=PK) x {x.mt with held:=true,gens:=C0 x.mt.gens gen} hx.sl kx.mt;have e9:=Cq (PK:=PK) y {y.mt with old:=true,held:=false} hy.sl ky.mt;have hA:nB (Lq x gen):=⟨kx.image,kx.gens,kx.bits,kx.bit,kx.sl,kx.conn,kx.sync,kx.syn,kx.copies,by simp[Lq]⟩;have e10:=AZ (PK:=PK) (Lq x gen) hA.nS;have e11:=AZ (PK:=PK) (Rq y) ky.nS;unfold Gn;unfold Rq at*;have hAe:Lq x gen={Bb x {x.mt with held:=true,gens:=C0 x.mt.gens gen} with wait:=[]}:=rfl;rw[hAe]at e10 ⊢;generalize Bb x {x.mt with held:=true,gens:=C0 x.mt.gens gen}=qa at*;generalize Bb y {y.mt with old:=true,held:=false}=qb at*;simp only[AJ,lent,fN,fM,AD,AX,kpA]at e0 e1 e2 e3 e5 e6 e7 e8 e9 e10 e11;rw[BK]at e10
 cases h0:Kl x y
 ·simp[p213,md,e0,e1,e2,h0,AF]
 by_cases h1:gen∈x.mt.gens
 ·simp[p213,md,e0,e1,e2,e3,h0,h1,AF]
 cases h2:inB gen 1 100000
 ·simp[p213,md,e0,e1,e2,e3,e4,h0,h1,h2,AF]
 generalize C0 x.mt.gens gen=gp at*
 cases h3:Am {qa with wait:=[]}
 ·simp[p213,md,e0,e1,e2,e3,e4,e5,e6,e7,e8,e9,e10,h0,h1,h2,h3,AF]
 cases h4:Am qb
 ·simp[p213,md,e0,e1,e2,e3,e4,e5,e6,e7,e8,e9,e10,e11,h0,h1,h2,h3,h4,AF]
 ·simp[p213,md,e0,e1,e2,e3,e4,e5,e6,e7,e8,e9,e10,e11,h0,h1,h2,h3,h4,AF]
def UG (n:AG) (src:Int) (m:BI):Bool:=Am n&&EX m&&inB src 0 2&&n.conn.getD src.toNat false&& !(decide (m.kind=5)&&decide (m.gens.length=0))
def F9 (n:AG) (src:Int) (m:BI):AG×List Ci:=if UG n src m&&Am (Dx n src m).1 then Dx n src m else(n,[])
theorem Nu {n:AG} {src cell val:Int} (hn:nB n) (hbl: ∀x∈n.mt.bits,x.length<=800):nB (E8 n src cell val):=by
 have h:=N7 (src:=src) (cell:=cell) (val:=val) hn hbl;exact⟨h.image,h.gens,h.bits,h.bit,CO hn.sl _,h.conn,h.sync,h.syn,h.copies,h.wait⟩
theorem Ph {n:AG} {src:Int} {m:BI} (hn:nB n) (hbl: ∀x∈n.mt.bits,x.length<=800) (hm:m.gens.length<=1000):nB (Dx n src m).1:=by
 unfold Dx;split
 ·exact Nu hn hbl
 ·split
  ·exact N7 hn hbl
  ·split
   ·exact Es hn (Np n m) hm hn.bits hn.bit
   ·split
    ·exact SA hn
    ·split
     ·exact hn
     ·exact Jd hn
theorem OX (n:AG) (src:Int) (m:BI) (hn:nB n) (hbl: ∀x∈n.mt.bits,x.length<=800) (hm:m.gens.length<=1048576):AH G PK md 201 [.a (AJ (fN n)),.v (.sc (.int .i64 src)),.a (AJ (fMs m))]=some ⟨[.a (AD (fN (F9 n src m).1)),.v (.own 7 (enc fP (F9 n src m).2))],[],[]⟩:=by
 refine AA (pf:=p201) rfl (by simp[p201]) ?_;have e1:=AZ (PK:=PK) n hn.nS;have e2:=Hm (PK:=PK) m hm;have e3:=Aj (PK:=PK) src 0 2;have e4:=Bo (PK:=PK) n hn.nS;simp only[AJ,lent,fN,fMs,AD,AX]at e1 e2 e4;unfold F9 UG
 cases h1:Am n
 ·simp[p201,md,e1,e4,h1]
 cases h2:EX m
 ·simp[p201,md,e1,e2,e4,h1,h2]
 cases h3:inB src 0 2
 ·simp[p201,md,e1,e2,e3,e4,h1,h2,h3]
 have r3:=Ab.1 h3;obtain⟨k,rfl⟩: ∃k:Nat,src=(k:Int):=⟨src.toNat,by omega⟩;obtain⟨c,q1,hc,hc',hcd⟩:=A1 n.conn (j:=k) (by have:=hn.conn;omega);simp only[Int.toNat_natCast,hcd]
 cases c
 ·simp[p201,md,e1,e2,e3,e4,h1,h2,h3,q1,hc']
 have mg:=IC h2;obtain⟨fin,hfin,e5⟩:=Q7 (PK:=PK) n (k:Int) m hn hbl h2;have hB:=Ph (src:=(k:Int)) (m:=m) hn hbl (by omega);have e6:=AZ (PK:=PK) (Dx n (k:Int) m).1 hB.nS;unfold Si finB Sh finD at hfin;simp only[AJ,lent,fN,fMs,AD,AX]at e5 e6;generalize Dx n (k:Int) m=q at*;by_cases h5:m.kind=5/\m.gens.length=0
 ·simp[p201,md,e1,e2,e3,e4,h1,h2,h3,q1,hc',eq_true h5.1,h5.2]
 have h6:(decide (m.kind=5)&&decide (m.gens.length=0))=false:=by
  cases ha:decide (m.kind=5)<;>cases hb:decide (m.gens.length=0)<;>simp at ha hb ⊢
  exact h5 ⟨ha,by simp[hb]⟩
 rw[h6]
 cases h7:Am q.1
 ·rw[h7]at e6;by_cases h5a:m.kind=5
  ·have h5b: ¬m.gens.length=0:=fun h=>h5 ⟨h5a,h⟩
   rcases hfin with rfl|rfl|rfl|rfl<;>simp (config:={maxSteps:=10000000}) [p201,md,e1,e2,e3,e4,e5,e6,h1,h2,h3,q1,hc',eq_true h5a,h5b,AF]
  ·rcases hfin with rfl|rfl|rfl|rfl<;>simp (config:={maxSteps:=10000000}) [p201,md,e1,e2,e3,e4,e5,e6,h1,h2,h3,q1,hc',h5a,AF]
 ·rw[h7]at e6;by_cases h5a:m.kind=5
  ·have h5b: ¬m.gens.length=0:=fun h=>h5 ⟨h5a,h⟩
   rcases hfin with rfl|rfl|rfl|rfl<;>simp (config:={maxSteps:=10000000}) [p201,md,e1,e2,e3,e4,e5,e6,h1,h2,h3,q1,hc',eq_true h5a,h5b,AF]
  ·rcases hfin with rfl|rfl|rfl|rfl<;>simp (config:={maxSteps:=10000000}) [p201,md,e1,e2,e3,e4,e5,e6,h1,h2,h3,q1,hc',h5a,AF]
end Go.Proofs.YtbolhfegdocpeaaGreat.Ow
