/- Functions evaluated on the small machine: Copies of metas and nodes, lists of generations: what the reference makes, What is done to a node: what the reference makes. -/
import Derived.Test.YtbolhfegdocpeaaGreatEv10
import Derived.Test.YtbolhfegdocpeaaGreatEv6
namespace Go.Proofs.YtbolhfegdocpeaaGreat.Ow
open Go
set_option linter.unusedVariables false
set_option linter.unusedSimpArgs false
set_option maxHeartbeats 4000000
variable {PK:Nat->List Arg->Option Res}
theorem EP {α:Type} {l:List α} {j:Nat} {x:α} (h:l[j]? =some x):l.take (j+1)=l.take j++[x]:=by rw[List.take_add_one,h];rfl
@[simp] def st210 (m:Av) (j:Nat):St:=
 if j=0 then {n:=32,m:=0,tm:=[(1,.pb 10000000 0),(2,.pb 10000001 0),(3,.pb 10000002 0),(4,.sc (.int .i64 j))],ob:=[(10000000,OJ m),(10000001,.box [.nil 1,.nil 1,.sc (.bool false),.sc (.bool false),.sc (.bool false),.sc (.int .i64 0)]),(10000002,.box [.ref 10000003 [],.nil 1,.sc (.bool m.fine),.sc (.bool m.old),.sc (.bool m.held),.sc (.int .i64 m.last)]),(10000003,.arr 1 (enc fI m.gens))]}
 else {n:=32,m:=0,tm:=[(1,.pb 10000000 0),(2,.pb 10000001 0),(3,.pb 10000002 0),(4,.sc (.int .i64 j))],ob:=[(10000000,OJ m),(10000001,.box [.nil 1,.nil 1,.sc (.bool false),.sc (.bool false),.sc (.bool false),.sc (.int .i64 0)]),(10000002,.box [.ref 10000003 [],.ref 10000004 [],.sc (.bool m.fine),.sc (.bool m.old),.sc (.bool m.held),.sc (.int .i64 m.last)]),(10000003,.arr 1 (enc fI m.gens)),(10000004,.arr 1 (enc fII (m.bits.take j)))]}
theorem B8 (m:Av) (hm:mtS m):AH G PK md 210 [.a (AJ (fM m))]=some ⟨[.a (AD (fM m))],[],[]⟩:=by
 refine AA (pf:=p210) rfl (by simp[p210]) ?_;obtain⟨hg,hb,hbb⟩:=hm;have g1:m.gens.length<=4398046511104:=by omega
 have g2:m.gens.length*8<=35184372088832:=by omega
 have hs:=AL (G:=G) (PK:=PK) (md:=md) (o:=10000000) (live:=[1,2,3,4]) (c:=b210_0) (st210 m) m.bits.length (fun j hj=>by
  obtain⟨x,y1,hx,hx',_,hxm⟩:=Ax m.bits hj;have hinc:=A2 hj hb;have hxl:=hbb x hxm;have g3:x.length<=4398046511104:=by omega
  have g4:x.length*8<=35184372088832:=by omega
  have g5:(j+1)*24<=35184372088832:=by omega
  have hmin:min j m.bits.length=j:=by omega
  have hsn:=EP hx;have hen:enc fII (List.take (j+1) m.bits)=enc fII (List.take j m.bits)++[[T.sl 1 (enc fI x)]]:=by rw[hsn];simp[enc]
  by_cases h0:j=0
  ·subst h0;simp at hx' hinc;simp[b210_0,md,hj,hx',g3,g4,hinc,AF];simpa using hen.symm
  ·simp[b210_0,md,hj,hx',g3,g4,g5,hmin,hinc,h0,hen,AF]) (by
  by_cases h0:m.bits.length=0
  ·simp[b210_0,h0]
  ·simp[b210_0,h0])
 simp[p210,md,g1,g2];rw[hs]
 ·by_cases h0:m.bits.length=0
  ·have:m.bits=[]:=List.eq_nil_of_length_eq_zero h0;simp[b210_0,this]
  ·simp[b210_0,h0]
 ·simp
 ·simp
def GI (i:Int):Int:=if inB i 0 1 then 1 - i else -1
theorem Cp (i:Int):AH G PK md 206 [.v (.sc (.int .i64 i))]=some ⟨[.v (.sc (.int .i64 (GI i)))],[],[]⟩:=by
 refine AA (pf:=p206) rfl (by simp[p206]) ?_;have e:=Aj (PK:=PK) i 0 1;unfold GI
 cases h:inB i 0 1
 ·simp[p206,md,e,h]
 ·have h1:=Ab.1 h;have hw:IntKind.wrap .i64 (1 - i)=1 - i:=AC (by omega) (by omega);simp[p206,md,e,h,hw]
def C0 (g:List Int) (n:Int):List Int:=if De ((n::g).take 12)then(n::g).take 12 else g
theorem GE (g:List Int) (n:Int) (hg:g.length<=1000000):AH G PK md 179 [.v (.im 1 (enc fI g)),.v (.sc (.int .i64 n))]=some ⟨[.v (.own 1 (enc fI (C0 g n)))],[],[]⟩:=by
 refine AA (pf:=p179) rfl (by simp[p179]) ?_;have g1:g.length<=4398046511104:=by omega
 have g2:g.length*8<=35184372088832:=by omega
 have g3:(1+g.length)*8<=35184372088832:=by omega
 have e:=Ed (PK:=PK) ((n::g).take 12) (by rw[List.length_take];omega);unfold C0;have hen:enc fI ((n::g).take 12)=([.sc (.int .i64 n)]::enc fI g).take 12:=by rw[←A5];rfl
 have hf:BA (List.take 12 ([.sc (.int .i64 n)]::enc fI g))=true:=by rw[←hen];exact Ly _
 rw[hen]at e;by_cases hl:11<g.length
 ·have h1: ¬ (g.length:Int)+1<=12:=by omega
  have h2:(12:Int)<(g.length:Int)+1:=by omega
  have h3:min 12 (g.length+1)=12:=by omega
  have h4:min 11 g.length=11:=by omega
  have h5:11<=g.length:=by omega
  simp at e hf
  cases hk:De ((n::g).take 12)<;>simp at hk<;>simp[p179,md,g1,g2,g3,h2,h3,h4,h5,e,hk,hf]
  rw[A5]
 ·have h2: ¬ (12:Int)<(g.length:Int)+1:=by omega
  have h5:g.take 11=g:=List.take_of_length_le (by omega);have h6:(enc fI g).take 11=enc fI g:=List.take_of_length_le (by rw[Da];omega);simp[h5,h6]at e hf
  cases hk:De ((n::g).take 12)<;>simp[h5]at hk<;>simp[p179,md,g1,g2,g3,h2,e,hk,hf,h5]
def Gf (a b:List Int):Int:=if a.getD 0 0=b.getD 0 0 then 0 else if b.getD 0 0∈a then 1 else if a.getD 0 0∈b then 2 else 3
theorem My (a b:List Int) (ha:0<a.length) (hb:0<b.length) (la:a.length<=1048576) (lb:b.length<=1048576):AH G PK md 253 [.v (.im 1 (enc fI a)),.v (.im 1 (enc fI b))]=some ⟨[.v (.sc (.int .i64 (Gf a b)))],[],[]⟩:=by
 refine AA (pf:=p253) rfl (by simp[p253]) ?_;obtain⟨x,y1,hx,hx',hxd⟩:=AT a ha;obtain⟨y,y2,hy,hy',hyd⟩:=AT b hb;have e1:=Cg (PK:=PK) a y la;have e2:=Cg (PK:=PK) b x lb;have n1: ¬ (a.length=0):=by omega
 have n2: ¬ (b.length=0):=by omega
 have n3:a≠[]:=List.length_pos_iff.1 ha;have n4:b≠[]:=List.length_pos_iff.1 hb;unfold Gf;rw[hxd,hyd];by_cases h1:x=y
 ·simp[p253,md,ha,hb,n1,n2,n3,n4,hx',hy',h1]
 by_cases h2:y∈a
 ·simp[p253,md,ha,hb,n1,n2,n3,n4,hx',hy',h1,e1,h2]
 by_cases h3:x∈b<;>simp[p253,md,ha,hb,n1,n2,n3,n4,hx',hy',h1,e1,e2,h2,h3]
@[simp] def zbox:Obj:= .box [.sc (.int .i64 0),.sc (.bool false),.sc (.bool false),.nil 1,.nil 1,.nil 1,.sc (.bool false),.sc (.bool false),.sc (.bool false),.sc (.int .i64 0),.nil 1,.nil 1,.nil 1,.nil 1,.nil 1,.nil 1]
@[simp] def st191 (n:AG) (j:Nat):St:=
 if j=0 then {n:=55,m:=0,tm:=[(1,.pb 10000000 0),(2,.pb 10000001 0),(3,.pb 10000002 0),(4,.sc (.int .i64 j))],ob:=[(10000000,OI n),(10000001,zbox),(10000002,.box [.sc (.int .i64 n.id),.sc (.bool n.up),.sc (.bool n.prime),.ref 10000003 [],.ref 10000004 [],.ref 10000005 [],.sc (.bool n.mt.fine),.sc (.bool n.mt.old),.sc (.bool n.mt.held),.sc (.int .i64 n.mt.last),.ref 10000006 [],.ref 10000007 [],.ref 10000008 [],.nil 1,.ref 10000009 [],.ref 10000010 []]),(10000003,.arr 1 (enc fI n.image)),(10000004,.arr 1 (enc fI n.mt.gens)),(10000005,.arr 1 (enc fII n.mt.bits)),(10000006,.arr 1 (enc fU n.sl.a)),(10000007,.arr 1 (enc fU n.sl.b)),(10000008,.arr 1 (enc fL n.conn)),(10000009,.arr 1 (enc fL n.copies)),(10000010,.arr 1 (enc fI n.wait))]}
 else {n:=55,m:=0,tm:=[(1,.pb 10000000 0),(2,.pb 10000001 0),(3,.pb 10000002 0),(4,.sc (.int .i64 j))],ob:=[(10000000,OI n),(10000001,zbox),(10000002,.box [.sc (.int .i64 n.id),.sc (.bool n.up),.sc (.bool n.prime),.ref 10000003 [],.ref 10000004 [],.ref 10000005 [],.sc (.bool n.mt.fine),.sc (.bool n.mt.old),.sc (.bool n.mt.held),.sc (.int .i64 n.mt.last),.ref 10000006 [],.ref 10000007 [],.ref 10000008 [],.ref 10000009 [],.ref 10000010 [],.ref 10000011 []]),(10000003,.arr 1 (enc fI n.image)),(10000004,.arr 1 (enc fI n.mt.gens)),(10000005,.arr 1 (enc fII n.mt.bits)),(10000006,.arr 1 (enc fU n.sl.a)),(10000007,.arr 1 (enc fU n.sl.b)),(10000008,.arr 1 (enc fL n.conn)),(10000009,.arr 1 (enc fII (n.sync.take j))),(10000010,.arr 1 (enc fL n.copies)),(10000011,.arr 1 (enc fI n.wait))]}
theorem Bo (n:AG) (hn:nS n):AH G PK md 191 [.a (AJ (fN n))]=some ⟨[.a (AD (fN n))],[],[]⟩:=by
 refine AA (pf:=p191) rfl (by simp[p191]) ?_;have e1:=B8 (PK:=PK) n.mt hn.mt;have e2:=Jm (PK:=PK) n.sl hn.sl.1.1 hn.sl.2.1;simp only[AJ,lent,fM,fSl,AD,AX]at e1 e2;obtain⟨hb,hbb⟩:=hn.sync;have a1:=hn.image;have a2:=hn.conn;have a3:=hn.copies;have a4:=hn.wait;have g1:n.image.length<=4398046511104:=by omega
 have g2:n.image.length*8<=35184372088832:=by omega
 have g3:n.conn.length<=35184372088832:=by omega
 have g4:n.copies.length<=35184372088832:=by omega
 have g5:n.wait.length<=4398046511104:=by omega
 have g6:n.wait.length*8<=35184372088832:=by omega
 have hs:=AL (G:=G) (PK:=PK) (md:=md) (o:=10000000) (live:=[1,2,3,4]) (c:=b191_0) (st191 n) n.sync.length (fun j hj=>by
  obtain⟨x,y1,hx,hx',_,hxm⟩:=Ax n.sync hj;have hinc:=A2 hj hb;have hxl:=hbb x hxm;have g3:x.length<=4398046511104:=by omega
  have g4:x.length*8<=35184372088832:=by omega
  have g5:(j+1)*24<=35184372088832:=by omega
  have hmin:min j n.sync.length=j:=by omega
  have hsn:=EP hx;have hen:enc fII (List.take (j+1) n.sync)=enc fII (List.take j n.sync)++[[T.sl 1 (enc fI x)]]:=by rw[hsn];simp[enc]
  by_cases h0:j=0
  ·subst h0;simp at hx' hinc;simp[b191_0,md,hj,hx',g3,g4,hinc,AF];simpa using hen.symm
  ·simp[b191_0,md,hj,hx',g3,g4,g5,hmin,hinc,h0,hen,AF]) (by
  by_cases h0:n.sync.length=0
  ·simp[b191_0,h0]
  ·simp[b191_0,h0])
 simp[p191,md,g1,g2,g3,g4,g5,g6,e1,e2];rw[hs]
 ·by_cases h0:n.sync.length=0
  ·have:n.sync=[]:=List.eq_nil_of_length_eq_zero h0;simp[b191_0,this]
  ·simp[b191_0,h0]
 ·simp
 ·simp
@[simp] theorem range2:List.range 2=[0,1]:=rfl
@[simp] theorem range3:List.range 3=[0,1,2]:=rfl
@[simp] theorem range4:List.range 4=[0,1,2,3]:=rfl
@[simp] theorem range5:List.range 5=[0,1,2,3,4]:=rfl
@[simp] theorem range6:List.range 6=[0,1,2,3,4,5]:=rfl
@[simp] theorem range7:List.range 7=[0,1,2,3,4,5,6]:=rfl
@[simp] theorem range8:List.range 8=[0,1,2,3,4,5,6,7]:=rfl
@[simp] theorem range9:List.range 9=[0,1,2,3,4,5,6,7,8]:=rfl
@[simp] theorem range10:List.range 10=[0,1,2,3,4,5,6,7,8,9]:=rfl
@[simp] theorem range11:List.range 11=[0,1,2,3,4,5,6,7,8,9,10]:=rfl
def Bb (n:AG) (m:Av):AG:={n with mt:=m,sl:=B4 n.sl m}
@[simp] def kpA (n:AG):List L:=[.sc (.int .i64 n.id),.sc (.bool n.up),.sc (.bool n.prime),.own 1 (enc fI n.image),.im 1 (enc fI n.mt.gens),.im 1 (enc fII n.mt.bits),.sc (.bool n.mt.fine),.sc (.bool n.mt.old),.sc (.bool n.mt.held),.sc (.int .i64 n.mt.last),
 .own 1 (enc fU n.sl.a),.own 1 (enc fU n.sl.b),.own 1 (enc fL n.conn),.own 1 (enc fII n.sync),.own 1 (enc fL n.copies),.own 1 (enc fI n.wait)]
theorem Cq (n:AG) (m:Av) (hs:slS n.sl) (hm:mtS m):AH G PK md 235 [.a (kpA n),.a (AJ (fM m))]=some ⟨[.a (AD (fN (Bb n m)))],[none,some (enc fU n.sl.a),some (enc fU n.sl.b),none,none,none,none],[]⟩:=by
 refine AA (pf:=p235) rfl (by simp[p235]) ?_;have e1:=B8 (PK:=PK) m hm;have e2:=CL (PK:=PK) n.sl m hs hm;simp only[AJ,lent,fM,fSl,AD,AX]at e1 e2;unfold Bb;generalize B4 n.sl m=sp at*;simp[p235,md,e1,e2]
def P4 (n:AG):AG:={n with up:=false,prime:=false,conn:=[false,false,false],sync:=[[],[],[]],copies:=[false,false,false],wait:=[]}
theorem Sn (n:AG):AH G PK md 249 [.a (AD (fN n))]=some ⟨[.a (AD (fN (P4 n)))],[none,none,none,none,none,some (enc fL n.conn),some (enc fII n.sync),some (enc fL n.copies),some (enc fI n.wait)],[]⟩:=by
 refine AA (pf:=p249) rfl (by simp[p249]) ?_;unfold P4;simp[p249,md,List.replicate]
def Nd (n:AG):AG:=if Am n then P4 n else n
theorem OY (n:AG) (hn:nS n):AH G PK md 233 [.a (AJ (fN n))]=some ⟨[.a (AD (fN (Nd n)))],[],[]⟩:=by
 refine AA (pf:=p233) rfl (by simp[p233]) ?_;have e1:=AZ (PK:=PK) n hn;have e2:=Bo (PK:=PK) n hn;have e3:=Sn (PK:=PK) n;simp only[AJ,lent,fN,AD,AX]at e1 e2 e3;unfold Nd
 cases h:Am n
 ·rw[h]at e1;simp[p233,md,e1,e2]
 ·rw[h]at e1;simp[p233,md,e1,e2,e3]
def NF (n:AG):AG:=if !Am n||n.up then n else {n with up:=true,mt:=(Ak n.sl).1}
theorem OU (n:AG) (hn:nS n):AH G PK md 209 [.a (AJ (fN n))]=some ⟨[.a (AD (fN (NF n)))],[],[]⟩:=by
 refine AA (pf:=p209) rfl (by simp[p209]) ?_;have e1:=AZ (PK:=PK) n hn;have e2:=Bo (PK:=PK) n hn;have e3:=C1 (PK:=PK) n.sl hn.sl;simp only[AJ,lent,fN,fSl,fM,AD,AX]at e1 e2 e3;unfold NF
 cases h:Am n
 ·rw[h]at e1;simp[p209,md,e1,e2]
 ·rw[h]at e1;generalize Ak n.sl=q at*
  cases hu:n.up
  ·rw[hu]at e1 e2;simp[p209,md,e1,e2,e3,hu]
  ·rw[hu]at e1 e2;simp[p209,md,e1,e2,hu]
def upd {α:Type} (f:Nat->α->α) (l:List α) (j:Nat):List α:=l.mapIdx fun k x=>if k<j then f k x else x
@[simp] theorem Ny {α:Type} (f:Nat->α->α) (l:List α) (j:Nat):(upd f l j).length=l.length:=by simp[upd]
theorem RR {α:Type} (f:Nat->α->α) {l:List α} {j:Nat} {x:α} (h:l[j]? =some x):(upd f l j)[j]? =some x:=by simp[upd,h]
theorem RQ {α:Type} (f:Nat->α->α) {l:List α} {j:Nat} {x:α} (h:l[j]? =some x):(upd f l j).set j (f j x)=upd f l (j+1):=by
 apply List.ext_getElem?;intro i;have hj:=(List.getElem?_eq_some_iff.1 h).1;rw[List.getElem?_set];simp only[upd,List.length_mapIdx,List.getElem?_mapIdx];by_cases hij:j=i
 ·subst hij;simp[h];exact(List.getElem?_eq_some_iff.1 h).1
 ·rw[if_neg hij];by_cases h1:i<j
  ·simp[h1,show i<j+1 by omega]
  ·simp[h1,show ¬i<j+1 by omega]
theorem O0 {α:Type} (f:Nat->α->α) (l:List α):upd f l 0=l:=by
 unfold upd;apply List.ext_getElem?;intro i;simp
theorem upd_all {α:Type} (f:Nat->α->α) (l:List α):upd f l l.length=l.mapIdx f:=by
 unfold upd;apply List.ext_getElem?;intro i;simp only[List.getElem?_mapIdx];rcases Nat.lt_or_ge i l.length with h|h
 ·simp[h]
 ·simp[List.getElem?_eq_none h]
def DJ (id src cell:Int) (k:Nat) (l:List Int):List Int:=if(k:Int)=src then clr l cell else if(k:Int)=id then l else D8 l cell
theorem Qg (id src cell:Int) (k:Nat) (l:List Int):(DJ id src cell k l).length<=l.length+1:=by
 unfold DJ;have:=F0 l cell;have:=Gh l cell;split
 ·omega
 ·split<;>omega
def ET (n:AG) (src cell val:Int):AG:={n with image:=EU n.image cell val,mt:={n.mt with bits:=n.mt.bits.mapIdx (DJ n.id src cell)}}
@[simp] def st242 (n : AG) (img : List Int) (src cell : Int) (bits : List (List Int)) (j : Nat) : St := { n := 56, m := 9, tm := [(1, .sc (.int .i64 src)), (2, .sc (.int .i64 cell)), (4, .pb 10000000 0), (8, .pb 10000001 0), (9, .pb 10000002 0), (10, .sc (.int .i64 j))], ob := [(0, .arr 1 (enc fI n.image)), (1, .arr 1 (enc fI n.mt.gens)), (2, .arr 1 (enc fII n.mt.bits)), (3, .arr 1 (enc fU n.sl.a)), (4, .arr 1 (enc fU n.sl.b)), (5, .arr 1 (enc fL n.conn)), (6, .arr 1 (enc fII n.sync)), (7, .arr 1 (enc fL n.copies)), (8, .arr 1 (enc fI n.wait)),
  (10000000, .box [.sc (.int .i64 n.id), .sc (.bool n.up), .sc (.bool n.prime), .ref 10000003 [], .ref 1 [], .ref 2 [], .sc (.bool n.mt.fine), .sc (.bool n.mt.old), .sc (.bool n.mt.held), .sc (.int .i64 n.mt.last), .ref 3 [], .ref 4 [], .ref 5 [], .ref 6 [], .ref 7 [], .ref 8 []]), (10000001, zbox), (10000002, .box [.ref 10000004 [], .ref 10000005 [], .sc (.bool n.mt.fine), .sc (.bool n.mt.old), .sc (.bool n.mt.held), .sc (.int .i64 n.mt.last)]), (10000003, .arr 1 (enc fI img)), (10000004, .arr 1 (enc fI n.mt.gens)), (10000005, .arr 1 (enc fII bits))] }
theorem Ps (n:AG) (src cell val:Int) (hi:n.image.length<=1048576) (hm:mtS n.mt) (hb:n.mt.bits.length=3) (hbl: ∀x∈n.mt.bits,x.length<=1000):AH G PK md 242 [.a (AD (fN n)),.v (.sc (.int .i64 src)),.v (.sc (.int .i64 cell)),.v (.sc (.int .i64 val))]=some ⟨[.a (AD (fN (ET n src cell val)))],[some (enc fI n.image),some (enc fI n.mt.gens),some (enc fII n.mt.bits),none,none,none,none,none,none],[]⟩:=by
 refine AA (pf:=p242) rfl (by simp[p242]) ?_;have e1:=KG (PK:=PK) n.image cell val hi;have e2:=B8 (PK:=PK) n.mt hm;simp only[AJ,lent,fM,AD,AX]at e1 e2;have hs:=AL (G:=G) (PK:=PK) (md:=md) (o:=10000000) (live:=[1,2,4,8,9,10]) (c:=b242_0) (fun j=>st242 n (EU n.image cell val) src cell (upd (DJ n.id src cell) n.mt.bits j) j) 3 (fun j hj=>by
  obtain⟨x,y1,hx,hx',_,hxm⟩:=Ax n.mt.bits (j:=j) (by omega);have hinc:=A2 hj (by omega);have hxl:=hbl x hxm;have hg:=RR (DJ n.id src cell) hx;have hst:=RQ (DJ n.id src cell) hx;have hul:=Ny (DJ n.id src cell) n.mt.bits j;simp only[←hst];generalize upd (DJ n.id src cell) n.mt.bits j=B at*;have hjB:j<B.length:=by omega
  have hgB:B[j]=x:=by simpa[hjB]using hg
  have c1:=G1 (PK:=PK) x cell (by omega);have c2:=JB (PK:=PK) x cell (by omega);have s1:=Bc fII B j (DJ n.id src cell j x);have hj3:(j:Int)<3:=by omega
  unfold DJ at*;by_cases h1:(j:Int)=src
  ·rw[if_pos h1]at s1 ⊢;simp at s1;simp[b242_0,md,hj3,eq_true h1,hjB,hgB,hinc,c1,s1]
  rw[if_neg h1]at s1 ⊢;by_cases h2:(j:Int)=n.id
  ·rw[if_pos h2];have hss:B.set j x=B:=by rw[←hgB];exact List.set_getElem_self hjB
   rw[hss];simp[b242_0,md,hj3,h1,eq_true h2,hjB,hgB,hinc]
  ·rw[if_neg h2]at s1 ⊢;simp at s1;simp[b242_0,md,hj3,h1,h2,hjB,hgB,hinc,c2,s1]) (by simp[b242_0])
 have hz:=O0 (DJ n.id src cell) n.mt.bits;have ha:=upd_all (DJ n.id src cell) n.mt.bits;rw[hb]at ha;unfold ET;simp[p242,md,e1,e2];rw[hs]
 ·simp[b242_0,ha]
 ·simp
 ·simp[hz]
end Go.Proofs.YtbolhfegdocpeaaGreat.Ow
