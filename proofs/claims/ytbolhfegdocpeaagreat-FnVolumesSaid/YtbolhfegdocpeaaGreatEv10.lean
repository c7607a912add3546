/- Functions evaluated on the small machine: What is done to a node: what the reference makes, What is done to a node: what the reference makes, second part, Who copies to whom: what the reference says. -/
import Derived.Test.YtbolhfegdocpeaaGreatEv9
namespace Go.Proofs.YtbolhfegdocpeaaGreat.Ow
open Go
set_option linter.unusedVariables false
set_option linter.unusedSimpArgs false
set_option maxHeartbeats 4000000
variable {PK:Nat->List Arg->Option Res}
@[simp] theorem range2:List.range 2=[0,1]:=rfl
@[simp] theorem range3:List.range 3=[0,1,2]:=rfl
@[simp] theorem range4:List.range 4=[0,1,2,3]:=rfl
@[simp] theorem range5:List.range 5=[0,1,2,3,4]:=rfl
@[simp] theorem range6:List.range 6=[0,1,2,3,4,5]:=rfl
@[simp] theorem range7:List.range 7=[0,1,2,3,4,5,6]:=rfl
@[simp] theorem range8:List.range 8=[0,1,2,3,4,5,6,7]:=rfl
@[simp] theorem range9:List.range 9=[0,1,2,3,4,5,6,7,8]:=rfl
@[simp] theorem range10:List.range 10=[0,1,2,3,4,5,6,7,8,9]:=rfl
@[simp] theorem range11:List.range 11=[0,1,2,3,4,5,6,7,8,9,10]:=rfl
def keepN (n:NodeD) (m:MetaD):NodeD:={n with mt:=m,sl:=slotPut n.sl m}
@[simp] def kpA (n:NodeD):List L:=[.sc (.int .i64 n.id),.sc (.bool n.up),.sc (.bool n.prime),.own 1 (enc fI n.image),.im 1 (enc fI n.mt.gens),.im 1 (enc fII n.mt.bits),.sc (.bool n.mt.fine),.sc (.bool n.mt.old),.sc (.bool n.mt.held),.sc (.int .i64 n.mt.last),
 .own 1 (enc fU n.sl.a),.own 1 (enc fU n.sl.b),.own 1 (enc fL n.conn),.own 1 (enc fII n.sync),.own 1 (enc fL n.copies),.own 1 (enc fI n.wait)]
theorem ev_l8Keep (n:NodeD) (m:MetaD) (hs:slS n.sl) (hm:mtS m):semK G PK md 235 [.a (kpA n),.a (lents (fM m))]=some ⟨[.a (owneds (fN (keepN n m)))],[none,some (enc fU n.sl.a),some (enc fU n.sl.b),none,none,none,none],[]⟩:=by
 refine semK_of (pf:=p235) rfl (by simp[p235]) ?_
 have e1:=ev_l5Copy (PK:=PK) m hm
 have e2:=ev_spec_SlotPut (PK:=PK) n.sl m hs hm
 simp only[lents,lent,fM,fSl,owneds,owned]at e1 e2
 unfold keepN
 generalize slotPut n.sl m=sp at*
 simp[p235,md,e1,e2]
def downN (n:NodeD):NodeD:={n with up:=false,prime:=false,conn:=[false,false,false],sync:=[[],[],[]],copies:=[false,false,false],wait:=[]}
theorem ev_l8Down (n:NodeD):semK G PK md 249 [.a (owneds (fN n))]=some ⟨[.a (owneds (fN (downN n)))],[none,none,none,none,none,some (enc fL n.conn),some (enc fII n.sync),some (enc fL n.copies),some (enc fI n.wait)],[]⟩:=by
 refine semK_of (pf:=p249) rfl (by simp[p249]) ?_
 unfold downN
 simp[p249,md,List.replicate]
def fallN (n:NodeD):NodeD:=if nodeOk n then downN n else n
theorem ev_spec_Fall (n:NodeD) (hn:nS n):semK G PK md 233 [.a (lents (fN n))]=some ⟨[.a (owneds (fN (fallN n)))],[],[]⟩:=by
 refine semK_of (pf:=p233) rfl (by simp[p233]) ?_
 have e1:=ev_spec_NodeOk (PK:=PK) n hn
 have e2:=ev_l8Copy (PK:=PK) n hn
 have e3:=ev_l8Down (PK:=PK) n
 simp only[lents,lent,fN,owneds,owned]at e1 e2 e3
 unfold fallN
 cases h:nodeOk n
 ·rw[h]at e1
  simp[p233,md,e1,e2]
 ·rw[h]at e1
  simp[p233,md,e1,e2,e3]
def riseN (n:NodeD):NodeD:=if !nodeOk n||n.up then n else {n with up:=true,mt:=(slotGet n.sl).1}
theorem ev_spec_Rise (n:NodeD) (hn:nS n):semK G PK md 209 [.a (lents (fN n))]=some ⟨[.a (owneds (fN (riseN n)))],[],[]⟩:=by
 refine semK_of (pf:=p209) rfl (by simp[p209]) ?_
 have e1:=ev_spec_NodeOk (PK:=PK) n hn
 have e2:=ev_l8Copy (PK:=PK) n hn
 have e3:=ev_spec_SlotGet (PK:=PK) n.sl hn.sl
 simp only[lents,lent,fN,fSl,fM,owneds,owned]at e1 e2 e3
 unfold riseN
 cases h:nodeOk n
 ·rw[h]at e1
  simp[p209,md,e1,e2]
 ·rw[h]at e1
  generalize slotGet n.sl=q at*
  cases hu:n.up
  ·rw[hu]at e1 e2
   simp[p209,md,e1,e2,e3,hu]
  ·rw[hu]at e1 e2
   simp[p209,md,e1,e2,hu]
def upd {α:Type} (f:Nat->α->α) (l:List α) (j:Nat):List α:=l.mapIdx fun k x=>if k<j then f k x else x
@[simp] theorem upd_len {α:Type} (f:Nat->α->α) (l:List α) (j:Nat):(upd f l j).length=l.length:=by simp[upd]
theorem upd_get {α:Type} (f:Nat->α->α) {l:List α} {j:Nat} {x:α} (h:l[j]? =some x):(upd f l j)[j]? =some x:=by simp[upd,h]
theorem upd_set {α:Type} (f:Nat->α->α) {l:List α} {j:Nat} {x:α} (h:l[j]? =some x):(upd f l j).set j (f j x)=upd f l (j+1):=by
 apply List.ext_getElem?
 intro i
 have hj:=(List.getElem?_eq_some_iff.1 h).1
 rw[List.getElem?_set]
 simp only[upd,List.length_mapIdx,List.getElem?_mapIdx]
 by_cases hij:j=i
 ·subst hij
  simp[h]
  exact(List.getElem?_eq_some_iff.1 h).1
 ·rw[if_neg hij]
  by_cases h1:i<j
  ·simp[h1,show i<j+1 by omega]
  ·simp[h1,show ¬i<j+1 by omega]
theorem upd_zero {α:Type} (f:Nat->α->α) (l:List α):upd f l 0=l:=by
 unfold upd
 apply List.ext_getElem?
 intro i
 simp
theorem upd_all {α:Type} (f:Nat->α->α) (l:List α):upd f l l.length=l.mapIdx f:=by
 unfold upd
 apply List.ext_getElem?
 intro i
 simp only[List.getElem?_mapIdx]
 rcases Nat.lt_or_ge i l.length with h|h
 ·simp[h]
 ·simp[List.getElem?_eq_none h]
def putBit (id src cell:Int) (k:Nat) (l:List Int):List Int:=if(k:Int)=src then clr l cell else if(k:Int)=id then l else mark l cell
theorem putBit_len (id src cell:Int) (k:Nat) (l:List Int):(putBit id src cell k l).length<=l.length+1:=by
 unfold putBit
 have:=clr_len l cell
 have:=mark_len l cell
 split
 ·omega
 ·split<;>omega
def putN (n:NodeD) (src cell val:Int):NodeD:={n with image:=putAt n.image cell val,mt:={n.mt with bits:=n.mt.bits.mapIdx (putBit n.id src cell)}}
@[simp] def st242 (n : NodeD) (img : List Int) (src cell : Int) (bits : List (List Int)) (j : Nat) : St := { n := 56, m := 9, tm := [(1, .sc (.int .i64 src)), (2, .sc (.int .i64 cell)), (4, .pb 10000000 0), (8, .pb 10000001 0), (9, .pb 10000002 0), (10, .sc (.int .i64 j))], ob := [(0, .arr 1 (enc fI n.image)), (1, .arr 1 (enc fI n.mt.gens)), (2, .arr 1 (enc fII n.mt.bits)), (3, .arr 1 (enc fU n.sl.a)), (4, .arr 1 (enc fU n.sl.b)), (5, .arr 1 (enc fL n.conn)), (6, .arr 1 (enc fII n.sync)), (7, .arr 1 (enc fL n.copies)), (8, .arr 1 (enc fI n.wait)),
  (10000000, .box [.sc (.int .i64 n.id), .sc (.bool n.up), .sc (.bool n.prime), .ref 10000003 [], .ref 1 [], .ref 2 [], .sc (.bool n.mt.fine), .sc (.bool n.mt.old), .sc (.bool n.mt.held), .sc (.int .i64 n.mt.last), .ref 3 [], .ref 4 [], .ref 5 [], .ref 6 [], .ref 7 [], .ref 8 []]), (10000001, zbox), (10000002, .box [.ref 10000004 [], .ref 10000005 [], .sc (.bool n.mt.fine), .sc (.bool n.mt.old), .sc (.bool n.mt.held), .sc (.int .i64 n.mt.last)]), (10000003, .arr 1 (enc fI img)), (10000004, .arr 1 (enc fI n.mt.gens)), (10000005, .arr 1 (enc fII bits))] }
theorem ev_l8Put (n:NodeD) (src cell val:Int) (hi:n.image.length<=1048576) (hm:mtS n.mt) (hb:n.mt.bits.length=3) (hbl: ∀x∈n.mt.bits,x.length<=1000):semK G PK md 242 [.a (owneds (fN n)),.v (.sc (.int .i64 src)),.v (.sc (.int .i64 cell)),.v (.sc (.int .i64 val))]=some ⟨[.a (owneds (fN (putN n src cell val)))],[some (enc fI n.image),some (enc fI n.mt.gens),some (enc fII n.mt.bits),none,none,none,none,none,none],[]⟩:=by
 refine semK_of (pf:=p242) rfl (by simp[p242]) ?_
 have e1:=ev_spec_Put (PK:=PK) n.image cell val hi
 have e2:=ev_l5Copy (PK:=PK) n.mt hm
 simp only[lents,lent,fM,owneds,owned]at e1 e2
 have hs:=loop_ok (G:=G) (PK:=PK) (md:=md) (o:=10000000) (live:=[1,2,4,8,9,10]) (c:=b242_0) (fun j=>st242 n (putAt n.image cell val) src cell (upd (putBit n.id src cell) n.mt.bits j) j) 3 (fun j hj=>by
  obtain⟨x,y1,hx,hx',_,hxm⟩:=getDD_ex n.mt.bits (j:=j) (by omega)
  have hinc:=incr hj (by omega)
  have hxl:=hbl x hxm
  have hg:=upd_get (putBit n.id src cell) hx
  have hst:=upd_set (putBit n.id src cell) hx
  have hul:=upd_len (putBit n.id src cell) n.mt.bits j
  simp only[←hst]
  generalize upd (putBit n.id src cell) n.mt.bits j=B at*
  have hjB:j<B.length:=by omega
  have hgB:B[j]=x:=by simpa[hjB]using hg
  have c1:=ev_Clear (PK:=PK) x cell (by omega)
  have c2:=ev_Mark (PK:=PK) x cell (by omega)
  have s1:=enc_set fII B j (putBit n.id src cell j x)
  have hj3:(j:Int)<3:=by omega
  unfold putBit at*
  by_cases h1:(j:Int)=src
  ·rw[if_pos h1]at s1 ⊢
   simp at s1
   simp[b242_0,md,hj3,eq_true h1,hjB,hgB,hinc,c1,s1]
  rw[if_neg h1]at s1 ⊢
  by_cases h2:(j:Int)=n.id
  ·rw[if_pos h2]
   have hss:B.set j x=B:=by rw[←hgB];exact List.set_getElem_self hjB
   rw[hss]
   simp[b242_0,md,hj3,h1,eq_true h2,hjB,hgB,hinc]
  ·rw[if_neg h2]at s1 ⊢
   simp at s1
   simp[b242_0,md,hj3,h1,h2,hjB,hgB,hinc,c2,s1]) (by simp[b242_0])
 have hz:=upd_zero (putBit n.id src cell) n.mt.bits
 have ha:=upd_all (putBit n.id src cell) n.mt.bits
 rw[hb]at ha
 unfold putN
 simp[p242,md,e1,e2]
 rw[hs]
 ·simp[b242_0,ha]
 ·simp
 ·simp[hz]
end Go.Proofs.YtbolhfegdocpeaaGreat.Ow
namespace Go.Proofs.YtbolhfegdocpeaaGreat.Ow
open Go
set_option linter.unusedVariables false
set_option linter.unusedSimpArgs false
set_option maxHeartbeats 4000000
variable {PK:Nat->List Arg->Option Res}
structure nB (n:NodeD):Prop where
 image:n.image.length<=1000
 gens:n.mt.gens.length<=1000
 bits:n.mt.bits.length=3
 bit: ∀x∈n.mt.bits,x.length<=900
 sl:slS n.sl
 conn:n.conn.length=3
 sync:n.sync.length=3
 syn: ∀x∈n.sync,x.length<=1000
 copies:n.copies.length=3
 wait:n.wait.length<=1000
theorem nB.mt {n:NodeD} (h:nB n):mtS n.mt:=⟨by have:=h.gens;omega,by have:=h.bits;omega,fun x hx=>by have:=h.bit x hx;omega⟩
theorem nB.nS {n:NodeD} (h:nB n):nS n:=⟨by have:=h.image;omega,h.mt,h.sl,by have:=h.conn;omega,⟨by have:=h.sync;omega,fun x hx=>by have:=h.syn x hx;omega⟩,by have:=h.copies;omega,by have:=h.wait;omega⟩
theorem asc_len {a b:Int} {l:List Int} (h:allB (ascP a b l) l.length=true):(l.length:Int)<=b - a+1\/l.length=0:=by
 have key: ∀j,j<l.length->a+j<=l.getD j 0:=by
  intro j
  induction j with
  |zero=>
   intro hj
   have:=allB_get h hj
   unfold ascP at this
   simp only[Bool.and_eq_true]at this
   have:=inB_iff.1 this.1
   omega
  |succ j ih=>
   intro hj
   have h1:=ih (by omega)
   have:=allB_get h hj
   unfold ascP at this
   simp only[Bool.and_eq_true,Bool.or_eq_true,decide_eq_true_iff]at this
   have h2:=this.2
   simp only[Nat.add_sub_cancel]at h2
   rcases h2 with h2|h2
   ·omega
   ·omega
 rcases Nat.eq_zero_or_pos l.length with h0|h0
 ·exact .inr h0
 ·left
  have h1:=key (l.length - 1) (by omega)
  have:=allB_get h (j:=l.length - 1) (by omega)
  unfold ascP at this
  simp only[Bool.and_eq_true]at this
  have:=inB_iff.1 this.1
  omega
theorem NOk.bits3 {n:NodeD} (h:NOk n):n.mt.bits.length=3:=by
 have:=h.mt
 unfold metaOk at this
 simp only[Bool.and_eq_true,beq_iff_eq]at this
 omega
theorem NOk.bit8 {n:NodeD} (h:NOk n): ∀x∈n.mt.bits,mkOk x=true:=fun x hx=>by
 have:=h.mt
 unfold metaOk bitsOk at this
 simp only[Bool.and_eq_true]at this
 obtain⟨j,hj,he⟩:=List.getElem_of_mem hx
 have h1:=allB_get this.1.1.2.2 hj
 rwa [getD_of (List.getElem?_eq_getElem hj),he]at h1
theorem NOk.gens12 {n:NodeD} (h:NOk n):gnOk n.mt.gens=true/\0<n.mt.gens.length/\n.mt.gens.length<=12:=by
 have:=h.mt
 unfold metaOk at this
 simp only[Bool.and_eq_true,decide_eq_true_iff]at this
 have h1:=this.1.1.1.1
 have h2:=h1
 unfold gnOk at h2
 simp only[Bool.and_eq_true,decide_eq_true_iff]at h2
 exact⟨h1,by omega,by omega⟩
theorem NOk.last {n:NodeD} (h:NOk n):0<=n.mt.last/\n.mt.last<=200:=by
 have:=h.mt
 unfold metaOk at this
 simp only[Bool.and_eq_true,decide_eq_true_iff]at this
 exact inB_iff.1 this.1.2
theorem NOk.syn8 {n:NodeD} (h:NOk n): ∀x∈n.sync,mkOk x=true:=fun x hx=>by
 obtain⟨j,hj,he⟩:=List.getElem_of_mem hx
 have h1:=allB_get h.lk (j:=j) (by have:=h.sync;omega)
 unfold Ow.lk at h1
 rw[Bool.and_eq_true,getD_of (List.getElem?_eq_getElem hj),he]at h1
 exact h1.1
theorem NOk.nB {n:NodeD} (h:NOk n) (hs:slS n.sl):nB n:=⟨by
 have:=h.img
 unfold imgOk at this
 simp only[Bool.and_eq_true,beq_iff_eq]at this
 omega,by have:=h.gens12;omega,h.bits3,fun x hx=>by have:=mk_len (h.bit8 x hx);omega,hs,h.conn,h.sync,fun x hx=>by have:=mk_len (h.syn8 x hx);omega,h.copies,by have:=asc_len h.wait;omega⟩
theorem slot_nB {n:NodeD} (h:nB n) (m:MetaD) (g:m.gens.length<=1000) (b:m.bits.length=3) (bb: ∀x∈m.bits,x.length<=900):nB (keepN n m):=⟨h.image,g,b,bb,slotPut_S h.sl m,h.conn,h.sync,h.syn,h.copies,h.wait⟩
def applyN (n:NodeD) (src cell val:Int):NodeD:=keepN (putN n src cell val) {(putN n src cell val).mt with last:=val}
theorem putBits_bd {n:NodeD} {src cell:Int} (hb:n.mt.bits.length=3) (hbl: ∀x∈n.mt.bits,x.length<=800):(n.mt.bits.mapIdx (putBit n.id src cell)).length=3/\ ∀x∈n.mt.bits.mapIdx (putBit n.id src cell),x.length<=900:=by
 refine⟨by rw[List.length_mapIdx];exact hb,fun x hx=> ?_⟩
 obtain⟨i,hi,rfl⟩:=List.mem_mapIdx.1 hx
 have:=putBit_len n.id src cell i n.mt.bits[i]
 have:=hbl _ (List.getElem_mem hi)
 omega
theorem ev_l8Apply (n:NodeD) (src cell val:Int) (hn:nB n) (hbl: ∀x∈n.mt.bits,x.length<=800):semK G PK md 226 [.a (owneds (fN n)),.v (.sc (.int .i64 src)),.v (.sc (.int .i64 cell)),.v (.sc (.int .i64 val))]=some ⟨[.a (owneds (fN (applyN n src cell val)))],[some (enc fI n.image),some (enc fI n.mt.gens),some (enc fII n.mt.bits),none,none,none,none,none,none],[]⟩:=by
 refine semK_of (pf:=p226) rfl (by simp[p226]) ?_
 have e1:=ev_l8Put (PK:=PK) n src cell val (by have:=hn.image;omega) hn.mt hn.bits (fun x hx=>by have:=hbl x hx;omega)
 obtain⟨b1,b2⟩:=putBits_bd (src:=src) (cell:=cell) hn.bits hbl
 have e2:=ev_l8Keep (PK:=PK) {(putN n src cell val)with mt:={(putN n src cell val).mt with last:=val}} {(putN n src cell val).mt with last:=val} hn.sl ⟨by have:=hn.gens;unfold putN;simp only;omega,by unfold putN;simp only[b1];omega,fun x hx=>by have:=b2 x hx;omega⟩
 have hk:keepN {(putN n src cell val)with mt:={(putN n src cell val).mt with last:=val}} {(putN n src cell val).mt with last:=val}=applyN n src cell val:=rfl
 rw[hk]at e2
 simp only[lents,lent,fN,fM,owneds,owned,kpA]at e1 e2
 generalize applyN n src cell val=r at*
 generalize hq:putN n src cell val=q at*
 have hsl:q.sl=n.sl:=by rw[←hq];rfl
 simp[p226,md,e1,e2]
theorem imgOk_len {l:List Int} (h:imgOk l=true):l.length=8:=by
 unfold imgOk at h
 simp only[Bool.and_eq_true,beq_iff_eq]at h
 omega
def knownM (n:NodeD) (who cell:Int):MetaD:={n.mt with bits:=n.mt.bits.set who.toNat (clr (n.mt.bits.getD who.toNat []) cell)}
def knownN (n:NodeD) (who cell val:Int):NodeD:=
 if nodeOk n&&inB who 0 2&&inB cell 0 7&&decide (n.image.getD cell.toNat 0=val)&&nodeOk (keepN n (knownM n who cell))then keepN n (knownM n who cell)else n
theorem knownM_bd {n:NodeD} {who cell:Int} (h:nB n):(knownM n who cell).gens.length<=1000/\(knownM n who cell).bits.length=3/\ ∀x∈(knownM n who cell).bits,x.length<=900:=by
 refine⟨h.gens,by unfold knownM;rw[List.length_set];exact h.bits,fun x hx=> ?_⟩
 unfold knownM at hx
 rcases List.mem_or_eq_of_mem_set hx with hx|rfl
 ·exact h.bit x hx
 ·have:=clr_len (n.mt.bits.getD who.toNat []) cell
  rcases Nat.lt_or_ge who.toNat n.mt.bits.length with h1|h1
  ·obtain⟨y,_,_,_,hyd,hym⟩:=getDD_ex n.mt.bits h1
   rw[hyd]at this ⊢
   have:=h.bit y hym
   omega
  ·rw[List.getD_eq_getElem?_getD,List.getElem?_eq_none h1]at this ⊢
   have:clr [] cell=[]:=rfl
   simp[this]
theorem ev_spec_Known (n:NodeD) (who cell val:Int) (hn:nB n):semK G PK md 244 [.a (lents (fN n)),.v (.sc (.int .i64 who)),.v (.sc (.int .i64 cell)),.v (.sc (.int .i64 val))]=some ⟨[.a (owneds (fN (knownN n who cell val)))],[],[]⟩:=by
 refine semK_of (pf:=p244) rfl (by simp[p244]) ?_
 have e0:=ev_l8Copy (PK:=PK) n hn.nS
 have e1:=ev_spec_NodeOk (PK:=PK) n hn.nS
 have e2:=ev_l1In (PK:=PK) who 0 2
 have e3:=ev_l1In (PK:=PK) cell 0 7
 have e4:=ev_l5Copy (PK:=PK) n.mt hn.mt
 obtain⟨k1,k2,k3⟩:=knownM_bd (who:=who) (cell:=cell) hn
 have e5:=ev_l8Keep (PK:=PK) n (knownM n who cell) hn.sl ⟨by omega,by omega,fun x hx=>by have:=k3 x hx;omega⟩
 have e6:=ev_spec_NodeOk (PK:=PK) (keepN n (knownM n who cell)) (slot_nB hn _ k1 k2 k3).nS
 simp only[lents,lent,fN,fM,owneds,owned,kpA]at e0 e1 e4 e5 e6
 unfold knownN
 cases h0:nodeOk n
 ·simp[p244,md,e0,e1,h0]
 cases h1:inB who 0 2
 ·simp[p244,md,e0,e1,e2,h0,h1]
 cases h2:inB cell 0 7
 ·simp[p244,md,e0,e1,e2,e3,h0,h1,h2]
 have r1:=inB_iff.1 h1
 have r2:=inB_iff.1 h2
 obtain⟨i,rfl⟩: ∃i:Nat,who=(i:Int):=⟨who.toNat,by omega⟩
 obtain⟨k,rfl⟩: ∃k:Nat,cell=(k:Int):=⟨cell.toNat,by omega⟩
 have h8:=imgOk_len (nodeOk_of h0).img
 obtain⟨v,y1,hv,hv',hvd⟩:=getD_ex n.image (j:=k) (by omega)
 obtain⟨b,y2,hb,hb',hbd,hbm⟩:=getDD_ex n.mt.bits (j:=i) (by have:=hn.bits;omega)
 have hbl:=hn.bit b hbm
 have c1:=ev_Clear (PK:=PK) b k (by omega)
 have s1:=enc_set fII n.mt.bits i (clr b k)
 simp at s1
 simp only[Int.toNat_natCast,hvd]
 by_cases h3:v=val
 ·have hm:knownM n (i:Int) (k:Int)={n.mt with bits:=n.mt.bits.set i (clr b k)}:=by
   unfold knownM
   simp only[Int.toNat_natCast,hbd]
  have hkm:(keepN n (knownM n (i:Int) (k:Int))).mt=knownM n (i:Int) (k:Int):=rfl
  rw[hm]at e5
  simp only at e5
  generalize hq:keepN n (knownM n (i:Int) (k:Int))=q at*
  rw[hm]at hq
  rw[hq]at e5
  cases h4:nodeOk q
  ·simp[p244,md,e0,e1,e2,e3,e4,e5,e6,c1,s1,h0,h1,h2,h3,h4,y1,y2,hv',hb']
  ·simp[p244,md,e0,e1,e2,e3,e4,e5,e6,c1,s1,h0,h1,h2,h3,h4,y1,y2,hv',hb']
 ·simp[p244,md,e0,e1,e2,e3,h0,h1,h2,h3,y1,hv']
end Go.Proofs.YtbolhfegdocpeaaGreat.Ow
namespace Go.Proofs.YtbolhfegdocpeaaGreat.Ow
open Go
set_option linter.unusedVariables false
set_option linter.unusedSimpArgs false
set_option maxHeartbeats 4000000
variable {PK:Nat->List Arg->Option Res}
def pairS (x y:NodeD):Int:=
 if x.prime&&y.prime|| !x.mt.fine&& !y.mt.fine then 0
 else if newer x.mt.gens y.mt.gens=3 then 0
 else if newer x.mt.gens y.mt.gens=1 then(if !x.mt.fine||y.prime then 0 else 1)
 else if newer x.mt.gens y.mt.gens=2 then(if !y.mt.fine||x.prime then 0 else 2)
 else if x.prime&& !x.mt.fine||y.prime&& !y.mt.fine then 0
 else if x.prime|| !y.prime&& !y.mt.fine then 1
 else if y.prime|| !x.mt.fine||decide (y.mt.last>x.mt.last)then 2 else 1
theorem newer_cases (a b:List Int):newer a b=0\/newer a b=1\/newer a b=2\/newer a b=3:=by
 unfold newer
 split
 ·exact .inl rfl
 ·split
  ·exact .inr (.inl rfl)
  ·split
   ·exact .inr (.inr (.inl rfl))
   ·exact .inr (.inr (.inr rfl))
theorem ev_l9Pair (x y : NodeD) (hx : NOk x) (hy : NOk y) : semK G PK md 247 [.a (lents (fN x)), .a (lents (fN y))] = some ⟨[.v (.sc (.int .i64 (pairS x y)))], [], []⟩ := by
  refine semK_of (pf := p247) rfl (by simp [p247]) ?_
  have g1 := hx.gens12
  have g2 := hy.gens12
  have e := ev_spec_Newer (PK := PK) x.mt.gens y.mt.gens g1.2.1 g2.2.1 (by omega) (by omega)
  have hc := newer_cases x.mt.gens y.mt.gens
  unfold pairS
  generalize newer x.mt.gens y.mt.gens = q at *
  cases h1 : x.prime <;> cases h2 : y.prime <;> cases h3 : x.mt.fine <;> cases h4 : y.mt.fine <;> rcases hc with rfl | rfl | rfl | rfl <;>
    first
    | (simp [p247, md, e, h1, h2, h3, h4]; done)
    | (by_cases h5 : y.mt.last > x.mt.last
       · have h6 : ¬ y.mt.last <= x.mt.last := by omega
         simp [p247, md, e, h1, h2, h3, h4, h5, h6]
       · have h6 : y.mt.last <= x.mt.last := by omega
         simp [p247, md, e, h1, h2, h3, h4, h5, h6])
def farS (x far:NodeD):Bool:=x.prime&&x.mt.fine&&decide (far.mt.gens.getD 0 0∈x.mt.gens)
theorem ev_l9Far (x y:NodeD) (hx:NOk x) (hy:NOk y):semK G PK md 246 [.a (lents (fN x)),.a (lents (fN y))]=some ⟨[.v (.sc (.bool (farS x y)))],[],[]⟩:=by
 refine semK_of (pf:=p246) rfl (by simp[p246]) ?_
 have g1:=hx.gens12
 have g2:=hy.gens12
 obtain⟨v,y1,hv,hv',hvd⟩:=getD_ex y.mt.gens (j:=0) (by omega)
 have e:=ev_l2Has (PK:=PK) x.mt.gens v (by omega)
 unfold farS
 rw[hvd]
 cases h1:x.prime<;>cases h2:x.mt.fine<;>simp[p246,md,e,h1,h2,y1,hv']
def source (x y:NodeD):Int:=
 if !nodeOk x|| !nodeOk y||decide (x.id=y.id)|| !x.up|| !y.up||x.conn.getD y.id.toNat false||y.conn.getD x.id.toNat false then 0
 else if y.id=2 then bit (farS x y) 1 else if x.id=2 then 2*bit (farS y x) 1 else pairS x y
theorem ev_spec_Source (x y:NodeD) (hx:nS x) (hy:nS y):semK G PK md 229 [.a (lents (fN x)),.a (lents (fN y))]=some ⟨[.v (.sc (.int .i64 (source x y)))],[],[]⟩:=by
 refine semK_of (pf:=p229) rfl (by simp[p229]) ?_
 have e1:=ev_spec_NodeOk (PK:=PK) x hx
 have e2:=ev_spec_NodeOk (PK:=PK) y hy
 unfold source
 simp only[lents,lent,fN]at e1 e2
 cases h1:nodeOk x
 ·simp[p229,md,e1,h1]
 cases h2:nodeOk y
 ·simp[p229,md,e1,e2,h1,h2]
 have nx:=nodeOk_of h1
 have ny:=nodeOk_of h2
 obtain⟨i,i3,hi⟩:=nx.nat
 obtain⟨j,j3,hj⟩:=ny.nat
 obtain⟨cx,q1,hc,hc',hcd⟩:=getB_ex x.conn (j:=j) (by have:=nx.conn;omega)
 obtain⟨cy,q2,hd,hd',hdd⟩:=getB_ex y.conn (j:=i) (by have:=ny.conn;omega)
 have e3:=ev_l9Far (PK:=PK) x y nx ny
 have e4:=ev_l9Far (PK:=PK) y x ny nx
 have e5:=ev_l9Pair (PK:=PK) x y nx ny
 have e6:=ev_l1Bit (PK:=PK) (farS x y)
 have e7:=ev_l1Bit (PK:=PK) (farS y x)
 have w1:IntKind.wrap .i64 (bit (farS x y) 1)=bit (farS x y) 1:=by cases farS x y<;>rfl
 have w2:IntKind.wrap .i64 (2*bit (farS y x) 1)=2*bit (farS y x) 1:=by cases farS y x<;>rfl
 simp only[lents,lent,fN]at e3 e4 e5
 simp only[hi,hj]at e1 e2 e3 e4 e5 ⊢
 simp only[Int.toNat_natCast,hcd,hdd]
 by_cases h3:(i:Int)=j
 ·simp[p229,md,e1,e2,h1,h2,hi,hj,eq_true h3]
 have h3': ¬i=j:=by omega
 cases h4:x.up
 ·rw[h4]at e1 e3 e4 e5
  simp[p229,md,e1,e2,h1,h2,hi,hj,h3,h3',h4]
 cases h5:y.up
 ·rw[h4]at e1 e3 e4 e5
  rw[h5]at e2 e3 e4 e5
  simp[p229,md,e1,e2,h1,h2,hi,hj,h3,h3',h4,h5]
 rw[h4]at e1 e3 e4 e5
 rw[h5]at e2 e3 e4 e5
 cases cx
 ·cases cy
  ·by_cases h6:(j:Int)=2
   ·simp[p229,md,e1,e2,h1,h2,hi,hj,h3,h3',h4,h5,q1,q2,hc',hd',eq_true h6,e3,e6,w1]
   ·by_cases h7:(i:Int)=2
    ·simp[p229,md,e1,e2,h1,h2,hi,hj,h3,h3',h4,h5,q1,q2,hc',hd',h6,eq_true h7,e4,e7,w2]
    ·simp[p229,md,e1,e2,h1,h2,hi,hj,h3,h3',h4,h5,q1,q2,hc',hd',h6,h7,e5]
  ·simp[p229,md,e1,e2,h1,h2,hi,hj,h3,h3',h4,h5,q1,q2,hc',hd']
 ·simp[p229,md,e1,e2,h1,h2,hi,hj,h3,h3',h4,h5,q1,hc']
def extent (x y:NodeD):List Int:=if nodeOk x&&nodeOk y then uni (x.mt.bits.getD y.id.toNat []) (y.mt.bits.getD x.id.toNat [])else []
theorem ev_spec_Extent (x y:NodeD) (hx:nS x) (hy:nS y):semK G PK md 248 [.a (lents (fN x)),.a (lents (fN y))]=some ⟨[.v (.own 1 (enc fI (extent x y)))],[],[]⟩:=by
 refine semK_of (pf:=p248) rfl (by simp[p248]) ?_
 have e1:=ev_spec_NodeOk (PK:=PK) x hx
 have e2:=ev_spec_NodeOk (PK:=PK) y hy
 simp only[lents,lent,fN]at e1 e2
 unfold extent
 cases h1:nodeOk x
 ·simp[p248,md,e1,h1]
 cases h2:nodeOk y
 ·simp[p248,md,e1,e2,h1,h2]
 have nx:=nodeOk_of h1
 have ny:=nodeOk_of h2
 obtain⟨i,i3,hi⟩:=nx.nat
 obtain⟨j,j3,hj⟩:=ny.nat
 obtain⟨a,y1,ha,ha',had,ham⟩:=getDD_ex x.mt.bits (j:=j) (by have:=nx.bits3;omega)
 obtain⟨b,y2,hb,hb',hbd,hbm⟩:=getDD_ex y.mt.bits (j:=i) (by have:=ny.bits3;omega)
 have l1:=mk_len (nx.bit8 a ham)
 have l2:=mk_len (ny.bit8 b hbm)
 have e3:=ev_Union (PK:=PK) a b (by omega) (by omega)
 simp only[hi,hj]at e1 e2 ⊢
 simp only[Int.toNat_natCast,had,hbd]
 simp[p248,md,e1,e2,h1,h2,hi,hj,y1,y2,ha',hb',e3]
end Go.Proofs.YtbolhfegdocpeaaGreat.Ow
