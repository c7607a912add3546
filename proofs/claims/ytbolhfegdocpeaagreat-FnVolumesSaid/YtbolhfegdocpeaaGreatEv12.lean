/- Functions evaluated on the small machine: Who may write, lead, hold: what the reference says, Hearing, writing, copying: what the reference makes of a node, and what goes out, Messages as bytes: what the reference makes. -/
import Derived.Test.YtbolhfegdocpeaaGreatEv10
import Derived.Test.YtbolhfegdocpeaaGreatEv11
namespace Go.Proofs.YtbolhfegdocpeaaGreat.Ow
open Go
set_option linter.unusedVariables false
set_option linter.unusedSimpArgs false
set_option maxHeartbeats 8000000
variable {PK:Nat->List Arg->Option Res}
def isPair (x y:NodeD):Bool:=nodeOk x&&nodeOk y&&decide (mate x.id=y.id)
theorem ev_l11Pair (x y:NodeD) (hx:nS x) (hy:nS y):semK G PK md 250 [.a (lents (fN x)),.a (lents (fN y))]=some ⟨[.v (.sc (.bool (isPair x y)))],[],[]⟩:=by
 refine semK_of (pf:=p250) rfl (by simp[p250]) ?_
 have e1:=ev_spec_NodeOk (PK:=PK) x hx
 have e2:=ev_spec_NodeOk (PK:=PK) y hy
 have e3:=ev_spec_Mate (PK:=PK) x.id
 simp only[lents,lent,fN]at e1 e2
 unfold isPair
 cases h1:nodeOk x<;>cases h2:nodeOk y<;>by_cases h3:mate x.id=y.id<;>simp[p250,md,e1,e2,e3,h1,h2,h3]
theorem pair_of {x y:NodeD} (h:isPair x y=true):NOk x/\NOk y/\(x.id=0/\y.id=1\/x.id=1/\y.id=0):=by
 unfold isPair mate at h
 simp only[Bool.and_eq_true,decide_eq_true_iff]at h
 have nx:=nodeOk_of h.1.1
 have ny:=nodeOk_of h.1.2
 refine⟨nx,ny,?_⟩
 have h2:=h.2
 have:=ny.id0
 split at h2
 ·rename_i hb
  have:=inB_iff.1 hb
  omega
 ·omega
def mayHold (x y:NodeD):Bool:=isPair x y&&x.up&&x.mt.fine&& !x.mt.old&& !x.mt.held&& !x.conn.getD y.id.toNat false&& !y.prime
theorem ev_spec_MayHold (x y:NodeD) (hx:nS x) (hy:nS y):semK G PK md 234 [.a (lents (fN x)),.a (lents (fN y))]=some ⟨[.v (.sc (.bool (mayHold x y)))],[],[]⟩:=by
 refine semK_of (pf:=p234) rfl (by simp[p234]) ?_
 have e1:=ev_l11Pair (PK:=PK) x y hx hy
 simp only[lents,lent,fN]at e1
 unfold mayHold
 cases h1:isPair x y
 ·simp[p234,md,e1,h1]
 obtain⟨nx,ny,_⟩:=pair_of h1
 obtain⟨j,j3,hj⟩:=ny.nat
 obtain⟨cx,q1,hc,hc',hcd⟩:=getB_ex x.conn (j:=j) (by have:=nx.conn;omega)
 simp only[hj]at e1 ⊢
 simp only[Int.toNat_natCast,hcd]
 cases h2:x.up<;>rw[h2]at e1
 ·simp[p234,md,e1,h1,h2,hj]
 cases h3:x.mt.fine<;>rw[h3]at e1
 ·simp[p234,md,e1,h1,h2,h3,hj]
 cases h4:x.mt.old<;>rw[h4]at e1
 case true=>simp[p234,md,e1,h1,h2,h3,h4,hj]
 cases h5:x.mt.held<;>rw[h5]at e1
 case true=>simp[p234,md,e1,h1,h2,h3,h4,h5,hj]
 cases cx<;>simp[p234,md,e1,h1,h2,h3,h4,h5,hj,q1,hc']
def mayWrite (x:NodeD):Bool:=nodeOk x&&x.prime&&(x.conn.getD (mate x.id).toNat false||x.mt.held)
theorem ev_spec_MayWrite (x:NodeD) (hx:nS x):semK G PK md 204 [.a (lents (fN x))]=some ⟨[.v (.sc (.bool (mayWrite x)))],[],[]⟩:=by
 refine semK_of (pf:=p204) rfl (by simp[p204]) ?_
 have e1:=ev_spec_NodeOk (PK:=PK) x hx
 have e2:=ev_spec_Mate (PK:=PK) x.id
 simp only[lents,lent,fN]at e1
 unfold mayWrite
 cases h1:nodeOk x
 ·simp[p204,md,e1,h1]
 have nx:=nodeOk_of h1
 cases h2:x.prime
 ·rw[h2]at e1
  simp[p204,md,e1,h1,h2]
 have h3:=nx.prime h2
 have h4:x.id=0\/x.id=1:=by have:=nx.id0;have:=nx.id2;omega
 obtain⟨k,k2,hk⟩: ∃k:Nat,k<2/\mate x.id=(k:Int):=by
  rcases h4 with h4|h4
  ·exact⟨1,by omega,by rw[h4];rfl⟩
  ·exact⟨0,by omega,by rw[h4];rfl⟩
 obtain⟨cx,q1,hc,hc',hcd⟩:=getB_ex x.conn (j:=k) (by have:=nx.conn;omega)
 rw[hk]at e2 ⊢
 simp only[Int.toNat_natCast,hcd]
 rw[h2]at e1
 cases cx<;>cases h5:x.mt.held<;>rw[h5]at e1<;>simp[p204,md,e1,e2,h1,h2,h5,q1,hc']
def leave1 (x:NodeD):NodeD×Bool:=if nodeOk x&&x.prime then({x with prime:=false,wait:=[]},true)else(x,false)
theorem ev_spec_Leave (x:NodeD) (hx:nS x):semK G PK md 216 [.a (lents (fN x))]=some ⟨[.a (owneds (fN (leave1 x).1)),.v (.sc (.bool (leave1 x).2))],[],[]⟩:=by
 refine semK_of (pf:=p216) rfl (by simp[p216]) ?_
 have e1:=ev_spec_NodeOk (PK:=PK) x hx
 have e2:=ev_l8Copy (PK:=PK) x hx
 simp only[lents,lent,fN,owneds,owned]at e1 e2
 unfold leave1
 cases h1:nodeOk x
 ·simp[p216,md,e1,e2,h1]
 cases h2:x.prime<;>rw[h2]at e1 e2<;>simp[p216,md,e1,e2,h1,h2]
def mayLead (x y:NodeD) (quiet:Bool):Bool:=
 isPair x y&&x.up&&x.mt.fine&& !x.mt.old&& !x.prime&&(x.mt.held||x.conn.getD y.id.toNat false&&y.conn.getD x.id.toNat false&& !x.copies.getD y.id.toNat false&& !y.copies.getD x.id.toNat false&& !y.prime&&decide (x.mt.last=y.mt.last)&&quiet)
theorem ev_spec_MayLead (x y:NodeD) (quiet:Bool) (hx:nS x) (hy:nS y):semK G PK md 236 [.a (lents (fN x)),.a (lents (fN y)),.v (.sc (.bool quiet))]=some ⟨[.v (.sc (.bool (mayLead x y quiet)))],[],[]⟩:=by
 refine semK_of (pf:=p236) rfl (by simp[p236]) ?_
 have e1:=ev_l11Pair (PK:=PK) x y hx hy
 simp only[lents,lent,fN]at e1
 unfold mayLead
 cases h1:isPair x y
 ·simp[p236,md,e1,h1]
 obtain⟨nx,ny,_⟩:=pair_of h1
 obtain⟨i,i3,hi⟩:=nx.nat
 obtain⟨j,j3,hj⟩:=ny.nat
 obtain⟨c1,q1,_,c1',d1⟩:=getB_ex x.conn (j:=j) (by have:=nx.conn;omega)
 obtain⟨c2,q2,_,c2',d2⟩:=getB_ex y.conn (j:=i) (by have:=ny.conn;omega)
 obtain⟨c3,q3,_,c3',d3⟩:=getB_ex x.copies (j:=j) (by have:=nx.copies;omega)
 obtain⟨c4,q4,_,c4',d4⟩:=getB_ex y.copies (j:=i) (by have:=ny.copies;omega)
 simp only[hi,hj]at e1 ⊢
 simp only[Int.toNat_natCast,d1,d2,d3,d4]
 cases h2:x.up<;>rw[h2]at e1
 ·simp[p236,md,e1,h1,h2,hi,hj]
 cases h3:x.mt.fine<;>rw[h3]at e1
 ·simp[p236,md,e1,h1,h2,h3,hi,hj]
 cases h4:x.mt.old<;>rw[h4]at e1
 case true=>simp[p236,md,e1,h1,h2,h3,h4,hi,hj]
 cases h5:x.prime<;>rw[h5]at e1
 case true=>simp[p236,md,e1,h1,h2,h3,h4,h5,hi,hj]
 cases h6:x.mt.held<;>rw[h6]at e1
 case true=>simp[p236,md,e1,h1,h2,h3,h4,h5,h6,hi,hj]
 cases c1
 ·simp[p236,md,e1,h1,h2,h3,h4,h5,h6,hi,hj,q1,c1']
 cases c2
 ·simp[p236,md,e1,h1,h2,h3,h4,h5,h6,hi,hj,q1,c1',q2,c2']
 cases c3
 case true=>simp[p236,md,e1,h1,h2,h3,h4,h5,h6,hi,hj,q1,c1',q2,c2',q3,c3']
 cases c4
 case true=>simp[p236,md,e1,h1,h2,h3,h4,h5,h6,hi,hj,q1,c1',q2,c2',q3,c3',q4,c4']
 cases h7:y.prime<;>rw[h7]at e1
 case true=>simp[p236,md,e1,h1,h2,h3,h4,h5,h6,h7,hi,hj,q1,c1',q2,c2',q3,c3',q4,c4']
 by_cases h8:x.mt.last=y.mt.last
 ·simp[p236,md,e1,h1,h2,h3,h4,h5,h6,h7,eq_true h8,hi,hj,q1,c1',q2,c2',q3,c3',q4,c4']
 ·simp[p236,md,e1,h1,h2,h3,h4,h5,h6,h7,h8,hi,hj,q1,c1',q2,c2',q3,c3',q4,c4']
def lead1 (x y:NodeD) (quiet:Bool):NodeD×Bool:=if mayLead x y quiet then({x with prime:=true},true)else(x,false)
theorem ev_spec_Lead (x y:NodeD) (quiet:Bool) (hx:nS x) (hy:nS y):semK G PK md 215 [.a (lents (fN x)),.a (lents (fN y)),.v (.sc (.bool quiet))]=some ⟨[.a (owneds (fN (lead1 x y quiet).1)),.v (.sc (.bool (lead1 x y quiet).2))],[],[]⟩:=by
 refine semK_of (pf:=p215) rfl (by simp[p215]) ?_
 have e1:=ev_spec_MayLead (PK:=PK) x y quiet hx hy
 have e2:=ev_l8Copy (PK:=PK) x hx
 simp only[lents,lent,fN,owneds,owned]at e1 e2
 unfold lead1
 cases h1:mayLead x y quiet<;>simp[p215,md,e1,e2,h1]
def holdA (x:NodeD) (gen:Int):NodeD:={keepN x {x.mt with held:=true,gens:=genPush x.mt.gens gen} with wait:=[]}
def holdB (y:NodeD):NodeD:=keepN y {y.mt with old:=true,held:=false}
def hold1 (x y:NodeD) (gen:Int):NodeD×NodeD×Bool:=
 if mayHold x y&& !decide (gen∈x.mt.gens)&&inB gen 1 100000&&nodeOk (holdA x gen)&&nodeOk (holdB y)then(holdA x gen,holdB y,true)else(x,y,false)
theorem genPush_len (g:List Int) (n:Int):(genPush g n).length<=g.length+12:=by
 unfold genPush
 split
 ·rw[List.length_take];omega
 ·omega
theorem ev_spec_Hold (x y:NodeD) (gen:Int) (hx:nB x) (hy:nB y) (hg:x.mt.gens.length<=900):semK G PK md 213 [.a (lents (fN x)),.a (lents (fN y)),.v (.sc (.int .i64 gen))]=some ⟨[.a (owneds (fN (hold1 x y gen).1)),.a (owneds (fN (hold1 x y gen).2.1)),.v (.sc (.bool (hold1 x y gen).2.2))],[],[]⟩:=by
 refine semK_of (pf:=p213) rfl (by simp[p213]) ?_
 have e0:=ev_spec_MayHold (PK:=PK) x y hx.nS hy.nS
 have e1:=ev_l8Copy (PK:=PK) x hx.nS
 have e2:=ev_l8Copy (PK:=PK) y hy.nS
 have e3:=ev_l2Has (PK:=PK) x.mt.gens gen (by omega)
 have e4:=ev_l1In (PK:=PK) gen 1 100000
 have e5:=ev_l5Copy (PK:=PK) x.mt hx.mt
 have e6:=ev_l5Copy (PK:=PK) y.mt hy.mt
 have e7:=ev_spec_GenPush (PK:=PK) x.mt.gens gen (by omega)
 have gl:=genPush_len x.mt.gens gen
 have kx:=slot_nB hx {x.mt with held:=true,gens:=genPush x.mt.gens gen} (by simp only;omega) hx.bits hx.bit
 have ky:=slot_nB hy {y.mt with old:=true,held:=false} hy.gens hy.bits hy.bit
 have e8:=ev_l8Keep (PK:=PK) x {x.mt with held:=true,gens:=genPush x.mt.gens gen} hx.sl kx.mt
 have e9:=ev_l8Keep (PK:=PK) y {y.mt with old:=true,held:=false} hy.sl ky.mt
 have hA:nB (holdA x gen):=⟨kx.image,kx.gens,kx.bits,kx.bit,kx.sl,kx.conn,kx.sync,kx.syn,kx.copies,by simp[holdA]⟩
 have e10:=ev_spec_NodeOk (PK:=PK) (holdA x gen) hA.nS
 have e11:=ev_spec_NodeOk (PK:=PK) (holdB y) ky.nS
 unfold hold1
 unfold holdB at*
 have hAe:holdA x gen={keepN x {x.mt with held:=true,gens:=genPush x.mt.gens gen} with wait:=[]}:=rfl
 rw[hAe]at e10 ⊢
 generalize keepN x {x.mt with held:=true,gens:=genPush x.mt.gens gen}=qa at*
 generalize keepN y {y.mt with old:=true,held:=false}=qb at*
 simp only[lents,lent,fN,fM,owneds,owned,kpA]at e0 e1 e2 e3 e5 e6 e7 e8 e9 e10 e11
 rw[enc_nil]at e10
 cases h0:mayHold x y
 ·simp[p213,md,e0,e1,e2,h0,Alike2]
 by_cases h1:gen∈x.mt.gens
 ·simp[p213,md,e0,e1,e2,e3,h0,h1,Alike2]
 cases h2:inB gen 1 100000
 ·simp[p213,md,e0,e1,e2,e3,e4,h0,h1,h2,Alike2]
 generalize genPush x.mt.gens gen=gp at*
 cases h3:nodeOk {qa with wait:=[]}
 ·simp[p213,md,e0,e1,e2,e3,e4,e5,e6,e7,e8,e9,e10,h0,h1,h2,h3,Alike2]
 cases h4:nodeOk qb
 ·simp[p213,md,e0,e1,e2,e3,e4,e5,e6,e7,e8,e9,e10,e11,h0,h1,h2,h3,h4,Alike2]
 ·simp[p213,md,e0,e1,e2,e3,e4,e5,e6,e7,e8,e9,e10,e11,h0,h1,h2,h3,h4,Alike2]
end Go.Proofs.YtbolhfegdocpeaaGreat.Ow
namespace Go.Proofs.YtbolhfegdocpeaaGreat.Ow
open Go
set_option linter.unusedVariables false
set_option linter.unusedSimpArgs false
set_option maxHeartbeats 8000000
variable {PK:Nat->List Arg->Option Res}
def hearG (n:NodeD) (src:Int) (m:MsgD):Bool:=nodeOk n&&msgOk m&&inB src 0 2&&n.conn.getD src.toNat false&& !(decide (m.kind=5)&&decide (m.gens.length=0))
def hearN (n:NodeD) (src:Int) (m:MsgD):NodeD×List PostD:=if hearG n src m&&nodeOk (hear0 n src m).1 then hear0 n src m else(n,[])
theorem applyN_nB {n:NodeD} {src cell val:Int} (hn:nB n) (hbl: ∀x∈n.mt.bits,x.length<=800):nB (applyN n src cell val):=by
 have h:=putN_nB (src:=src) (cell:=cell) (val:=val) hn hbl
 exact⟨h.image,h.gens,h.bits,h.bit,slotPut_S hn.sl _,h.conn,h.sync,h.syn,h.copies,h.wait⟩
theorem hear0_nB {n:NodeD} {src:Int} {m:MsgD} (hn:nB n) (hbl: ∀x∈n.mt.bits,x.length<=800) (hm:m.gens.length<=1000):nB (hear0 n src m).1:=by
 unfold hear0
 split
 ·exact applyN_nB hn hbl
 ·split
  ·exact putN_nB hn hbl
  ·split
   ·exact slot_nB hn (doneM n m) hm hn.bits hn.bit
   ·split
    ·exact ackN_nB hn
    ·split
     ·exact hn
     ·exact knownN_nB hn
theorem ev_spec_Hear (n:NodeD) (src:Int) (m:MsgD) (hn:nB n) (hbl: ∀x∈n.mt.bits,x.length<=800) (hm:m.gens.length<=1048576):semK G PK md 201 [.a (lents (fN n)),.v (.sc (.int .i64 src)),.a (lents (fMs m))]=some ⟨[.a (owneds (fN (hearN n src m).1)),.v (.own 7 (enc fP (hearN n src m).2))],[],[]⟩:=by
 refine semK_of (pf:=p201) rfl (by simp[p201]) ?_
 have e1:=ev_spec_NodeOk (PK:=PK) n hn.nS
 have e2:=ev_spec_MsgOk (PK:=PK) m hm
 have e3:=ev_l1In (PK:=PK) src 0 2
 have e4:=ev_l8Copy (PK:=PK) n hn.nS
 simp only[lents,lent,fN,fMs,owneds,owned]at e1 e2 e4
 unfold hearN hearG
 cases h1:nodeOk n
 ·simp[p201,md,e1,e4,h1]
 cases h2:msgOk m
 ·simp[p201,md,e1,e2,e4,h1,h2]
 cases h3:inB src 0 2
 ·simp[p201,md,e1,e2,e3,e4,h1,h2,h3]
 have r3:=inB_iff.1 h3
 obtain⟨k,rfl⟩: ∃k:Nat,src=(k:Int):=⟨src.toNat,by omega⟩
 obtain⟨c,q1,hc,hc',hcd⟩:=getB_ex n.conn (j:=k) (by have:=hn.conn;omega)
 simp only[Int.toNat_natCast,hcd]
 cases c
 ·simp[p201,md,e1,e2,e3,e4,h1,h2,h3,q1,hc']
 have mg:=msgOk_gens h2
 obtain⟨fin,hfin,e5⟩:=ev_l10Hear (PK:=PK) n (k:Int) m hn hbl h2
 have hB:=hear0_nB (src:=(k:Int)) (m:=m) hn hbl (by omega)
 have e6:=ev_spec_NodeOk (PK:=PK) (hear0 n (k:Int) m).1 hB.nS
 unfold finA finB finC finD at hfin
 simp only[lents,lent,fN,fMs,owneds,owned]at e5 e6
 generalize hear0 n (k:Int) m=q at*
 by_cases h5:m.kind=5/\m.gens.length=0
 ·simp[p201,md,e1,e2,e3,e4,h1,h2,h3,q1,hc',eq_true h5.1,h5.2]
 have h6:(decide (m.kind=5)&&decide (m.gens.length=0))=false:=by
  cases ha:decide (m.kind=5)<;>cases hb:decide (m.gens.length=0)<;>simp at ha hb ⊢
  exact h5 ⟨ha,by simp[hb]⟩
 rw[h6]
 cases h7:nodeOk q.1
 ·rw[h7]at e6
  by_cases h5a:m.kind=5
  ·have h5b: ¬m.gens.length=0:=fun h=>h5 ⟨h5a,h⟩
   rcases hfin with rfl|rfl|rfl|rfl<;>simp (config:={maxSteps:=10000000}) [p201,md,e1,e2,e3,e4,e5,e6,h1,h2,h3,q1,hc',eq_true h5a,h5b,Alike2]
  ·rcases hfin with rfl|rfl|rfl|rfl<;>simp (config:={maxSteps:=10000000}) [p201,md,e1,e2,e3,e4,e5,e6,h1,h2,h3,q1,hc',h5a,Alike2]
 ·rw[h7]at e6
  by_cases h5a:m.kind=5
  ·have h5b: ¬m.gens.length=0:=fun h=>h5 ⟨h5a,h⟩
   rcases hfin with rfl|rfl|rfl|rfl<;>simp (config:={maxSteps:=10000000}) [p201,md,e1,e2,e3,e4,e5,e6,h1,h2,h3,q1,hc',eq_true h5a,h5b,Alike2]
  ·rcases hfin with rfl|rfl|rfl|rfl<;>simp (config:={maxSteps:=10000000}) [p201,md,e1,e2,e3,e4,e5,e6,h1,h2,h3,q1,hc',h5a,Alike2]
end Go.Proofs.YtbolhfegdocpeaaGreat.Ow
namespace Go.Proofs.YtbolhfegdocpeaaGreat.Ow
open Go
set_option linter.unusedVariables false
set_option linter.unusedSimpArgs false
set_option maxHeartbeats 8000000
variable {PK:Nat->List Arg->Option Res}
def sum1 (a:Int×Int) (x:Int):Int×Int:=((a.1+x)%65521,(a.2+(a.1+x)%65521)%65521)
def sums (b:List Int):Int×Int:=b.foldl sum1 (1,0)
def sumOf (b:List Int):Int:=(sums b).2*65536+(sums b).1
theorem sums_bd (b:List Int):0<=(sums b).1/\(sums b).1<65521/\0<=(sums b).2/\(sums b).2<65521:=by
 unfold sums
 suffices h: ∀ (b:List Int) (a:Int×Int),(0<=a.1/\a.1<65521/\0<=a.2/\a.2<65521)->0<=(b.foldl sum1 a).1/\(b.foldl sum1 a).1<65521/\0<=(b.foldl sum1 a).2/\(b.foldl sum1 a).2<65521 from h b (1,0) (by decide)
 intro b
 induction b with
 |nil=>intro a h;exact h
 |cons x b ih=>
  intro a h
  refine ih _ ?_
  unfold sum1
  simp only
  omega
@[simp] def st154 (b:List Int) (a:Int×Int) (j:Nat):St:={n:=28,m:=0,tm:=[(0,.im 1 (enc fU b)),(3,.sc (.int .i64 a.1)),(4,.sc (.int .i64 a.2)),(5,.sc (.int .i64 j))],ob:=[]}
theorem ev_spec_SumOf (b:List Int) (hb:byt b):semK G PK md 154 [.v (.im 1 (enc fU b))]=some ⟨[.v (.sc (.int .i64 (sumOf b)))],[],[]⟩:=by
 refine semK_of (pf:=p154) rfl (by simp[p154]) ?_
 have hs:=loop_ok (G:=G) (PK:=PK) (md:=md) (o:=10000000) (live:=[0,3,4,5]) (c:=b154_0) (fun j=>st154 b (sums (b.take j)) j) b.length (fun j hj=>by
  obtain⟨x,hx⟩:=getElem?_of_lt hj
  obtain⟨_,hx'⟩:=at_of hx
  have hxb:=hb.2 x (List.mem_of_getElem? hx)
  have hinc:=incr hj hb.1
  have hbd:=sums_bd (b.take j)
  have hsu:sums (b.take (j+1))=sum1 (sums (b.take j)) x:=foldl_take sum1 (1,0) b hx
  simp only[hsu]
  generalize sums (b.take j)=a at hbd ⊢
  obtain⟨u,v⟩:=a
  simp only at hbd
  have w0:IntKind.wrap .i64 x=x:=wrap_id (by omega) (by omega)
  have w1:IntKind.wrap .i64 (u+x)=u+x:=wrap_id (by omega) (by omega)
  have t1:(u+x).tmod 65521=(u+x)%65521:=Int.tmod_eq_emod_of_nonneg (by omega)
  obtain⟨q,hq⟩: ∃q,q=(u+x)%65521:=⟨_,rfl⟩
  have hq1:0<=q/\q<65521:=by omega
  have w2:IntKind.wrap .i64 q=q:=wrap_id (by omega) (by omega)
  have w3:IntKind.wrap .i64 (v+q)=v+q:=wrap_id (by omega) (by omega)
  have t2:(v+q).tmod 65521=(v+q)%65521:=Int.tmod_eq_emod_of_nonneg (by omega)
  obtain⟨r,hr⟩: ∃r,r=(v+q)%65521:=⟨_,rfl⟩
  have w4:IntKind.wrap .i64 r=r:=wrap_id (by omega) (by omega)
  simp[b154_0,md,hj,hx',hinc,w0,w1,t1,←hq,w2,w3,t2,←hr,w4,sum1]) (by simp[b154_0])
 have hf:b.take b.length=b:=List.take_length
 have hbd:=sums_bd b
 unfold sumOf
 generalize hg:sums b=a at*
 obtain⟨u,v⟩:=a
 simp only at hbd
 have w1:IntKind.wrap .i64 (v*65536)=v*65536:=wrap_id (by omega) (by omega)
 have w2:IntKind.wrap .i64 (v*65536+u)=v*65536+u:=wrap_id (by omega) (by omega)
 simp[p154,md]
 rw[hs]
 ·simp[b154_0,hf,hg,w1,w2]
 ·simp
 ·simp[sums]
def body (m:MsgD):List Int:=pns [m.kind,m.cell,m.val,m.who,m.gens.length]++pns m.gens
def msgBytes (m:MsgD):List Int:=if msgOk m then putNum (body m).length++body m++four (sumOf (body m))else []
structure MsB (m:MsgD):Prop where
 k:1<=m.kind/\m.kind<=5
 c:0<=m.cell/\m.cell<=7
 v:0<=m.val/\m.val<=200
 w:0<=m.who/\m.who<=2
 g:m.gens.length<=12
 gb: ∀x∈m.gens,1<=x/\x<=100000
 g0:m.kind≠5->m.gens=[]
theorem msB_of {m:MsgD} (h:msgOk m=true):MsB m:=by
 have hg:=msgOk_gens h
 unfold msgOk at h
 split at h
 ·rename_i h5
  simp only[Bool.and_eq_true,decide_eq_true_iff]at h
  have hv:=inB_iff.1 h.1.1.2
  exact⟨by omega,by omega,hv,by omega,hg,gn_bd h.1.1.1,fun hk=>absurd h5 hk⟩
 ·split at h
  ·rename_i h5 hk
   simp only[Bool.and_eq_true,decide_eq_true_iff,Bool.or_eq_true]at h
   have hn:m.gens=[]:=List.eq_nil_of_length_eq_zero h.1.1.1
   have hc:=inB_iff.1 h.1.1.2
   have hv:=inB_iff.1 h.1.2
   have hb:bit (decide (m.kind=4)||decide (m.kind=2)) 1<=1:=by unfold bit;split<;>omega
   have hw:0<=m.who/\m.who<=2:=by
    rcases h.2 with h2|h2
    ·exact inB_iff.1 h2.2
    ·omega
   exact⟨by omega,hc,by omega,hw,hg,(by rw[hn];intro x hx;cases hx),fun _=>hn⟩
  ·cases h
theorem MsB.head {m:MsgD} (h:MsB m):inU [m.kind,m.cell,m.val,m.who,(m.gens.length:Int)]:=fun x hx=>by
 have h1:=h.k
 have h2:=h.c
 have h3:=h.v
 have h4:=h.w
 have h5:=h.g
 simp only[List.mem_cons,List.not_mem_nil,or_false]at hx
 rcases hx with rfl|rfl|rfl|rfl|rfl<;>omega
theorem MsB.tail {m:MsgD} (h:MsB m):inU m.gens:=fun x hx=>by have:=h.gb x hx;omega
theorem body_len {m:MsgD} (h:MsB m):(body m).length<=85:=by
 unfold body
 have h1:=pns_len _ h.head
 have h2:=pns_len _ h.tail
 have:=h.g
 rw[List.length_append]
 simp only[List.length_cons,List.length_nil]at h1
 omega
@[simp] def st151_1 (m:MsgD) (l:List Int) (j:Nat):St:={n:=49,m:=0,tm:=[(1,.pb 10000000 0),(3,.ref 10000001 []),(4,.ref 10000002 []),(5,.sc (.int .i64 j))],ob:=[(10000000,.box [.sc (.int .i64 m.kind),.sc (.int .i64 m.cell),.sc (.int .i64 m.val),.sc (.int .i64 m.who),.im 1 (enc fI m.gens)]),(10000001,.arr 1 (enc fU (pns (l.take j)))),(10000002,.arr 1 (enc fI l))]}
@[simp] def st151_0 (m:MsgD) (o:List Int) (j:Nat):St:={n:=49,m:=0,tm:=[(1,.pb 10000200 0),(3,.ref 10000201 []),(6,.sc (.int .i64 j))],ob:=[(10000200,.box [.sc (.int .i64 m.kind),.sc (.int .i64 m.cell),.sc (.int .i64 m.val),.sc (.int .i64 m.who),.im 1 (enc fI m.gens)]),(10000201,.arr 1 (enc fU (o++pns (m.gens.take j))))]}
theorem ev_l4Body (m:MsgD) (hm:MsB m):semK G PK md 151 [.a (lents (fMs m))]=some ⟨[.v (.own 1 (enc fU (body m)))],[],[]⟩:=by
 refine semK_of (pf:=p151) rfl (by simp[p151]) ?_
 obtain⟨l,hl⟩: ∃l,l=[m.kind,m.cell,m.val,m.who,(m.gens.length:Int)]:=⟨_,rfl⟩
 have hll:l.length=5:=by rw[hl];rfl
 have hlu:inU l:=by rw[hl];exact hm.head
 have h1:=loop_ok (G:=G) (PK:=PK) (md:=md) (o:=10000000) (live:=[1,3,4,5]) (c:=b151_1) (fun j=>st151_1 m l j) l.length (fun j hj=>by
  obtain⟨x,_,hx,hx',hd⟩:=getD_ex l hj
  obtain⟨u0,u1⟩:=hlu x (List.mem_of_getElem? hx)
  have e:=ev_spec_PutNum (PK:=PK) x u0 u1
  have hpt:=pns_take l hx
  have hlen:=pns_len (l.take j) (inU_take hlu j)
  have hlj:(l.take j).length=j:=by rw[List.length_take];omega
  have hap:enc fU (pns (l.take j))++enc fU (putNum x)=enc fU (pns (l.take (j+1))):=by rw[hpt,enc_append]
  have hp5:=putNum_len u0 u1
  have hb:(pns (l.take j)).length+(putNum x).length<=35184372088832:=by omega
  have hinc:=incr hj (by omega)
  simp[b151_1,md,hj,hx',e,hap,hb,hinc]) (by simp[b151_1])
 have hgu:=hm.tail
 have hpl:=pns_len l hlu
 have h0:=loop_ok (G:=G) (PK:=PK) (md:=md) (o:=10000200) (live:=[1,3,6]) (c:=b151_0) (fun j=>st151_0 m (pns l) j) m.gens.length (fun j hj=>by
  obtain⟨x,_,hx,hx',hd⟩:=getD_ex m.gens hj
  obtain⟨u0,u1⟩:=hgu x (List.mem_of_getElem? hx)
  have e:=ev_spec_PutNum (PK:=PK) x u0 u1
  have hpt:=pns_take m.gens hx
  have hlen:=pns_len (m.gens.take j) (inU_take hgu j)
  have hlj:(m.gens.take j).length=j:=by rw[List.length_take];omega
  have:=hm.g
  have hap:enc fU (pns l++pns (m.gens.take j))++enc fU (putNum x)=enc fU (pns l++pns (m.gens.take (j+1))):=by rw[hpt,enc_append,List.append_assoc]
  have hp5:=putNum_len u0 u1
  have hinc:=incr hj (by omega)
  generalize hq:pns l++pns (m.gens.take j)=q at hap ⊢
  have hql:q.length<=100:=by rw[←hq,List.length_append];omega
  have hb:q.length+(putNum x).length<=35184372088832:=by omega
  simp[b151_0,md,hj,hx',e,hap,hb,hinc,hq]) (by simp[b151_0])
 have hz:pns []=[]:=rfl
 have hf:m.gens.take m.gens.length=m.gens:=List.take_length
 have hf1:l.take l.length=l:=List.take_length
 unfold body
 rw[←hl]
 simp[p151,md]
 rw[h1]
 ·simp[b151_1]
  rw[h0]
  ·simp[b151_0]
  ·simp
  ·simp[hz,hf1]
 ·simp
 ·simp[hz,hl]
theorem msgBytes_len (m:MsgD):(msgBytes m).length<=94:=by
 unfold msgBytes
 split
 ·rename_i h
  have h1:=body_len (msB_of h)
  have h2:=putNum_len (n:=(body m).length) (by omega) (by omega)
  rw[List.length_append,List.length_append,four_len]
  omega
 ·simp
theorem four_by (n:Int):by8 (four n):=fun x hx=>by
 simp only[four,List.mem_cons,List.not_mem_nil,or_false]at hx
 omega
theorem body_by (m:MsgD):by8 (body m):=by8_app (pns_by _) (pns_by _)
theorem msgBytes_by (m:MsgD):by8 (msgBytes m):=by
 unfold msgBytes
 split
 ·exact by8_app (by8_app (putNum_by _) (body_by m)) (four_by _)
 ·intro x hx;cases hx
theorem ev_spec_MsgBytes (m:MsgD) (hm:m.gens.length<=1048576):semK G PK md 117 [.a (lents (fMs m))]=some ⟨[.v (.own 1 (enc fU (msgBytes m)))],[],[]⟩:=by
 refine semK_of (pf:=p117) rfl (by simp[p117]) ?_
 have e1:=ev_spec_MsgOk (PK:=PK) m hm
 simp only[lents,lent,fMs]at e1
 unfold msgBytes
 cases h:msgOk m
 ·simp[p117,md,e1,h]
 have hb:=msB_of h
 have bl:=body_len hb
 have e2:=ev_l4Body (PK:=PK) m hb
 have e3:=ev_spec_PutNum (PK:=PK) (body m).length (by omega) (by omega)
 have e4:=ev_spec_SumOf (PK:=PK) (body m) ⟨by omega,body_by m⟩
 have e5:=ev_l4Sum (PK:=PK) (sumOf (body m))
 have pl:=putNum_len (n:=(body m).length) (by omega) (by omega)
 simp only[lents,lent,fMs]at e2
 generalize body m=b at*
 generalize hp:putNum (b.length:Int)=p at*
 generalize hf:four (sumOf b)=f at*
 have hfl:f.length=4:=by rw[←hf];rfl
 have g1:p.length+b.length<=35184372088832:=by omega
 have g2:p.length+b.length+f.length<=35184372088832:=by omega
 have g3:p.length+(b.length+f.length)<=35184372088832:=by omega
 simp[p117,md,e1,e2,e3,e4,e5,h,g1,g2,g3]
 simp[enc]
end Go.Proofs.YtbolhfegdocpeaaGreat.Ow
