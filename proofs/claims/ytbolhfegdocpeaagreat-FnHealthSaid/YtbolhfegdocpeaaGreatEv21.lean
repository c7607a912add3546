/- Functions evaluated on the small machine: A write: what the reference makes of a world, A write: what the reference makes of a world, second GH, Meeting, falling, rising, copying: what the reference makes of a world. -/
import Derived.Test.YtbolhfegdocpeaaGreatEv20
import Derived.Test.YtbolhfegdocpeaaGreatEv14
import Derived.Test.YtbolhfegdocpeaaGreatEv15
import Derived.Test.YtbolhfegdocpeaaGreatEv13
namespace Go.Proofs.YtbolhfegdocpeaaGreat.Ow
open Go
set_option linter.unusedVariables false
set_option linter.unusedSimpArgs false
set_option maxHeartbeats 16000000
variable {PK:Nat->List Arg->Option Res}
structure nC (n:AG):Prop where
 b:nB n
 bit: ∀x∈n.mt.bits,x.length<=800
 wait:n.wait.length<=900
 gens:n.mt.gens.length<=900
structure WI (w:AB):Prop where
 n3:w.nodes.length=3
 node: ∀x∈w.nodes,nC x
 id: ∀i:Nat,i<3->(nd w i).id=i
 net:w.net.length<=100
 wire: ∀x∈w.net,byt x.bytes
 log:w.log.length<=1000
 safe:w.safe.length<=1000
theorem NOk.nC {n:AG} (h:NOk n) (hs:slS n.sl):nC n:=⟨h.nB hs,fun x hx=>by have:=E4 (h.bit8 x hx);omega,by have:=Oo h.wait;omega,by have:=h.gens12;omega⟩
theorem WI.L {w:AB} (h:WI w):WL w:=⟨h.n3,fun x hx=>⟨(h.node x hx).b.conn,(h.node x hx).b.copies,(h.node x hx).b.sync⟩,by have:=h.net;omega⟩
theorem BT {w:AB} (h:BV w=true) (hw:wS w):WI w:=by
 have hN:=Ha h;unfold BV PX at h;simp only[Bool.and_eq_true,decide_eq_true_iff]at h;obtain⟨⟨⟨⟨⟨⟨h1,h2⟩,h3⟩,h4⟩,h5⟩,h6⟩,⟨h7,h8⟩,h9⟩:=h;refine⟨h1,fun x hx=> ?_,hN.id,by omega,fun x hx=>hw.wire x hx,by omega,by have:=Oo h6;omega⟩;obtain⟨i,hi,he⟩:=List.getElem_of_mem hx;obtain⟨y,_,_,hy',hyd,_⟩:=Ay w.nodes zN hi;have hk:=hN.ok i (by omega);have hn:nd w i=x:=by unfold nd;rw[hyd,←hy',he]
 rw[hn]at hk;exact hk.nC (hw.node x hx).sl
theorem OG {w:AB} {i k:Nat} {n:AG} (h:w.nodes.length=3) (hi:i<3):nd {w with nodes:=w.nodes.set k n} i=if k=i then n else nd w i:=by
 unfold nd;simp only[List.getD_eq_getElem?_getD,List.getElem?_set];by_cases hk:k=i
 ·subst hk;simp[h,hi]
 ·simp[hk]
theorem QV {w:AB} {k:Nat} {n:AG} (h:WI w) (hk:k<3) (hn:nC n) (hid:n.id=k):WI {w with nodes:=w.nodes.set k n}:=by
 refine⟨by simp only[List.length_set];exact h.n3,fun x hx=> ?_,fun i hi=> ?_,h.net,h.wire,h.log,h.safe⟩
 ·rcases List.mem_or_eq_of_mem_set hx with hx|rfl
  ·exact h.node x hx
  ·exact hn
 ·rw[OG h.n3 hi];split
  ·rename_i he;rw[hid,he]
  ·exact h.id i hi
theorem R0 {n:AG} {k:Nat} (h:nC n):nC (E5 n k):=
 ⟨⟨h.b.image,h.b.gens,h.b.bits,h.b.bit,h.b.sl,by unfold E5;simp only[List.length_set];exact h.b.conn,by unfold E5;simp only[List.length_set];exact h.b.sync,fun x hx=>by
  rcases List.mem_or_eq_of_mem_set hx with hx|rfl
  ·exact h.b.syn x hx
  ·simp,by unfold E5;simp only[List.length_set];exact h.b.copies,h.b.wait⟩,h.bit,h.wait,h.gens⟩
theorem WI.nd {w:AB} (h:WI w) {i:Nat} (hi:i<3):nC (nd w i):=h.node _ (OH (by have:=h.n3;omega))
theorem Oi {w:AB} {a b:Nat} (h:WI w) (ha:a<3) (hb:b<3) (hab:a≠b):WI (Db w a b):=by
 have h1:WI {w with nodes:=w.nodes.set a (E5 (Ow.nd w a) b)}:=QV h ha (R0 (h.nd ha)) (h.id a ha);have h2:=QV (k:=b) h1 hb (R0 (k:=a) (h.nd hb)) (h.id b hb);exact⟨h2.n3,h2.node,h2.id,by have:=List.length_filter_le (DS a b) w.net;have:=h.net;unfold Db;simp only;omega,fun x hx=>h.wire x (List.mem_filter.1 hx).1,h.log,h.safe⟩
theorem Tm {w:AB} {a b:Nat} (h:w.nodes.length=3) (ha:a<3) (hab:a≠b):nd (Db w a b) a=E5 (nd w a) b:=by
 have h1:(w.nodes.set a (E5 (nd w a) b)).length=3:=by rw[List.length_set];exact h
 have:=OG (w:={w with nodes:=w.nodes.set a (E5 (nd w a) b),net:=w.net.filter (DS a b)}) (k:=b) (n:=E5 (nd w b) a) (i:=a) h1 ha;rw[if_neg hab.symm]at this;have h2:=OG (w:=w) (k:=a) (n:=E5 (nd w a) b) (i:=a) h ha;rw[if_pos rfl]at h2;exact this.trans h2
def Pk (fin:List (Option (List (List T)))):Prop:= ∃A B,fin=[none,A,none,B]
def JL (w:AB) (a:Nat):Bool:=decide (38<w.net.length)&&(nd w a).conn.getD 2 false
def Kt (w:AB) (a:Nat) (cell:Int):AB:=
 let w2:AB:={w with log:=w.log++[⟨cell,(nd w a).mt.last⟩]}
 let r:=DE (nd w a) cell (w.log.length+1:Nat)
 let w3:AB:={w2 with nodes:=w.nodes.set a r.1}
 let w4:=if r.1.conn.getD (GI a).toNat false then w3 else Eo w3 [(w.log.length+1:Nat)]
 F7 w4 r.2
def Hv (w:AB) (a:Nat) (cell:Int):AB×Int:=
 if !EY (nd w a)then(w,3)else if 200<=w.log.length then(w,4)
 else if 38<(if JL w a then Db w a 2 else w).net.length then(if JL w a then Db w a 2 else w,4)
 else(Kt (if JL w a then Db w a 2 else w) a cell,0)
theorem JK {n:AG} {cell val:Int} (h:nC n):nB (DE n cell val).1/\(DE n cell val).1.id=n.id:=by
 unfold DE;split
 ·refine⟨M7 h.b h.bit h.wait,?_⟩;unfold ES;split<;>rfl
 ·exact⟨h.b,rfl⟩
theorem Ff {n:AG} {cell val:Int} {i:Nat} (hid:n.id=i) (hi:i<3): ∀p∈(DE n cell val).2,Hd p:=by
 intro p hp;unfold DE at hp;split at hp
 ·simp only[tos,List.mem_flatMap,List.mem_range]at hp;obtain⟨k,hk,hp⟩:=hp;unfold to1 at hp;split at hp
  ·rename_i hc;rw[List.mem_singleton.1 hp];have hid2:(ES n cell val).id=i:=by
    unfold ES;split<;>exact hid
   exact⟨i,k,hi,hk,by rw[hid]at hc;omega,hid2,rfl,by simp⟩
  ·cases hp
 ·cases hp
theorem Ks {n:AG} {cell val:Int}:(DE n cell val).2.length<=3:=by
 unfold DE;split
 ·exact Kc _ _ _ 3
 ·simp
theorem J8 {n:AG} (h:EY n=true):NOk n/\n.prime=true:=by
 unfold EY at h;simp only[Bool.and_eq_true]at h;exact⟨A3 h.1.1,h.1.2⟩
@[simp] theorem app_R (l:List S5) (c u:Int):enc fR l++[[T.sc (.int .i64 c),T.sc (.int .i64 u)]]=enc fR (l++[⟨c,u⟩]):=by simp[enc]
theorem Pu (w:AB) (a:Nat) (cell:Int) (ha:a<3) (hw:WI w): ∃fin,Pk fin/\AH G PK md 187 [.a (AD (fWo w)),.v (.sc (.int .i64 a)),.v (.sc (.int .i64 cell))]=some ⟨[.a (AD (fWo (Hv w a cell).1)),.v (.sc (.int .i64 (Hv w a cell).2))],fin,[]⟩:=by
 have hn3:=hw.n3;obtain⟨x,y1,hx1,hx',hxd,hxm⟩:=Ay w.nodes zN (j:=a) (by omega);have hxa:nd w a=x:=hxd;have hcx:=hw.node x hxm;have e1:=Jl (PK:=PK) x hcx.b.nS;simp only[AJ,lent,fN]at e1;unfold Hv JL;rw[hxa]
 cases hmw:EY x
 ·rw[hmw]at e1;refine⟨[none,none,none,none],⟨_,_,rfl⟩,AA (pf:=p187) rfl (by simp[p187]) ?_⟩;simp[p187,md,y1,hx',e1]
 rw[hmw]at e1;obtain⟨nx,hpr⟩:=J8 hmw;by_cases hlog:200<=w.log.length
 ·have hlog':(200:Int)<=w.log.length:=by omega
  refine⟨[none,none,none,none],⟨_,_,rfl⟩,AA (pf:=p187) rfl (by simp[p187]) ?_⟩;simp[p187,md,y1,hx',e1,hlog,hlog']
 have hlog': ¬ (200:Int)<=w.log.length:=by omega
 have hnet:=hw.net;have wn:IntKind.wrap .i64 ((w.net.length:Int)+2)=(w.net.length:Int)+2:=AC (by omega) (by omega);obtain⟨k,k2,hk⟩:=PU nx hpr;have hida:=hw.id a ha;rw[hxa]at hida;rw[hida]at hk;have e6:=Cp (PK:=PK) a;rw[hk]at e6;have hc2:=hcx.b.conn;obtain⟨c2,q2,_,c2',c2d⟩:=A1 x.conn (j:=2) (by omega);rw[c2d];by_cases hcut:38<w.net.length/\c2=true
 ·obtain⟨hbig,rfl⟩:=hcut;have hbig':(40:Int)<(w.net.length:Int)+2:=by omega
  have hg:(decide (38<w.net.length)&&true)=true:=by simp[hbig]
  rw[hg];simp only[if_true];have ha2:a≠2:=by
   have:=nx.prime hpr;intro h;subst h;exact this.2 hida
  have e3:=FV (PK:=PK) w a 2 hn3 ha (by omega) ha2 (by omega) hw.L.c3;have hWI:=Oi hw ha (show 2<3 by omega) ha2;have hx1c:=Tm (w:=w) hn3 ha ha2;rw[hxa]at hx1c;have hlog1:(Db w a 2).log=w.log:=rfl;have hsafe1:(Db w a 2).safe=w.safe:=rfl;have hgen1:(Db w a 2).gen=w.gen:=rfl;simp only[AD,AX,fWo]at e3;rw[show ((2:Nat):Int)=2 from rfl]at e3;generalize EH w.net a 2 w.net.length=hr1 at*;generalize Db w a 2=v1 at*;obtain⟨x1,z1,hz1,hz',hzd,hzm⟩:=Ay v1.nodes zN (j:=a) (by have:=hWI.n3;omega);have hxv:nd v1 a=x1:=hzd;rw[hxv]at hx1c;have hnet1:=hWI.net;have wn1:IntKind.wrap .i64 ((v1.net.length:Int)+2)=(v1.net.length:Int)+2:=AC (by omega) (by omega);by_cases hfull:38<v1.net.length
  ·have hfull':(40:Int)<(v1.net.length:Int)+2:=by omega
   refine⟨[none,some hr1,none,none],⟨_,_,rfl⟩,AA (pf:=p187) rfl (by simp[p187]) ?_⟩;simp (config:={maxSteps:=10000000}) [p187,md,y1,hx',e1,e3,hlog,hlog',wn,wn1,hbig,hbig',hfull,hfull',q2,c2',AF]
  have hfull': ¬ (40:Int)<(v1.net.length:Int)+2:=by omega
  have g1:(v1.log.length+1)*16<=35184372088832:=by have:=hWI.log;omega
  have hcx1:=hWI.node x1 hzm;have hid1:x1.id=a:=by rw[←hxv];exact hWI.id a ha
  have e2:=Hl (PK:=PK) x1 cell (v1.log.length+1:Nat) hcx1.b hcx1.bit hcx1.wait;have hr:=JK (cell:=cell) (val:=(v1.log.length+1:Nat)) hcx1;have hps:=Ff (cell:=cell) (val:=(v1.log.length+1:Nat)) (i:=a) hid1 ha;have hpl:=Ks (n:=x1) (cell:=cell) (val:=(v1.log.length+1:Nat));unfold Kt;rw[hxv];simp only[AJ,lent,fN,AD,AX]at e2;generalize DE x1 cell (v1.log.length+1:Nat)=r at*;obtain⟨q,ps⟩:=r;simp only at e2 hr hps hpl ⊢;have hqc:=hr.1.conn;obtain⟨c3,q3,_,c3',c3d⟩:=A1 q.conn (j:=k) (by omega);rw[hk];simp only[Int.toNat_natCast,c3d];obtain⟨len,hlen⟩: ∃len,len=v1.log.length+1:=⟨_,rfl⟩;rw[←hlen]at e2 ⊢;have hlen2:(v1.log.length:Int)+1=(len:Int):=by omega
  have hWL:WL {v1 with log:=v1.log++[⟨cell,x1.mt.last⟩],nodes:=v1.nodes.set a q}:=⟨by simp only[List.length_set];exact hWI.n3,fun y hy=>by
   rcases List.mem_or_eq_of_mem_set hy with hy|rfl
   ·exact hWI.L.c3 y hy
   ·exact⟨hr.1.conn,hr.1.copies,hr.1.sync⟩,by simp only;omega⟩
  cases c3
  ·simp only[Bool.false_eq_true,if_false];obtain⟨finS,hfinS,e5⟩:=MG (PK:=PK) {v1 with log:=v1.log++[⟨cell,x1.mt.last⟩],nodes:=v1.nodes.set a q} [(len:Int)] (by simp) (by simp only;have:=hWI.safe;omega);have hWL4:WL (Eo {v1 with log:=v1.log++[⟨cell,x1.mt.last⟩],nodes:=v1.nodes.set a q} [(len:Int)]):=⟨hWL.n3,hWL.c3,hWL.net⟩;obtain⟨fin,hfin,e4⟩:=Dq (PK:=PK) (Eo {v1 with log:=v1.log++[⟨cell,x1.mt.last⟩],nodes:=v1.nodes.set a q} [(len:Int)]) ps hWL4 (by omega) hps;generalize F7 (Eo {v1 with log:=v1.log++[⟨cell,x1.mt.last⟩],nodes:=v1.nodes.set a q} [(len:Int)]) ps=v at*;simp only[AD,AX,fWo,BZ,BK,fI,Eo]at e4 e5;rcases hfinS with rfl|rfl<;>rcases hfin with rfl|⟨rows,rfl⟩
   ·refine⟨[none,some hr1,none,none],⟨_,_,rfl⟩,AA (pf:=p187) rfl (by simp[p187]) ?_⟩;simp (config:={maxSteps:=10000000}) [p187,md,y1,hx',e1,e2,e3,e4,e5,e6,hlog,hlog',wn,wn1,hbig,hbig',hfull,hfull',g1,q2,q3,c2',c3',z1,hz',hlen2,AF]
   ·refine⟨[none,some hr1,none,none],⟨_,_,rfl⟩,AA (pf:=p187) rfl (by simp[p187]) ?_⟩;simp (config:={maxSteps:=10000000}) [p187,md,y1,hx',e1,e2,e3,e4,e5,e6,hlog,hlog',wn,wn1,hbig,hbig',hfull,hfull',g1,q2,q3,c2',c3',z1,hz',hlen2,AF]
   ·refine⟨[none,some hr1,none,none],⟨_,_,rfl⟩,AA (pf:=p187) rfl (by simp[p187]) ?_⟩;simp (config:={maxSteps:=10000000}) [p187,md,y1,hx',e1,e2,e3,e4,e5,e6,hlog,hlog',wn,wn1,hbig,hbig',hfull,hfull',g1,q2,q3,c2',c3',z1,hz',hlen2,AF]
   ·refine⟨[none,some hr1,none,none],⟨_,_,rfl⟩,AA (pf:=p187) rfl (by simp[p187]) ?_⟩;simp (config:={maxSteps:=10000000}) [p187,md,y1,hx',e1,e2,e3,e4,e5,e6,hlog,hlog',wn,wn1,hbig,hbig',hfull,hfull',g1,q2,q3,c2',c3',z1,hz',hlen2,AF]
  ·obtain⟨fin,hfin,e4⟩:=Dq (PK:=PK) {v1 with log:=v1.log++[⟨cell,x1.mt.last⟩],nodes:=v1.nodes.set a q} ps hWL (by omega) hps;simp only[if_true];generalize F7 {v1 with log:=v1.log++[⟨cell,x1.mt.last⟩],nodes:=v1.nodes.set a q} ps=v at*;simp only[AD,AX,fWo]at e4;rcases hfin with rfl|⟨rows,rfl⟩
   ·refine⟨[none,some hr1,none,none],⟨_,_,rfl⟩,AA (pf:=p187) rfl (by simp[p187]) ?_⟩;simp (config:={maxSteps:=10000000}) [p187,md,y1,hx',e1,e2,e3,e4,e6,hlog,hlog',wn,wn1,hbig,hbig',hfull,hfull',g1,q2,q3,c2',c3',z1,hz',hlen2,AF]
   ·refine⟨[none,some hr1,none,none],⟨_,_,rfl⟩,AA (pf:=p187) rfl (by simp[p187]) ?_⟩;simp (config:={maxSteps:=10000000}) [p187,md,y1,hx',e1,e2,e3,e4,e6,hlog,hlog',wn,wn1,hbig,hbig',hfull,hfull',g1,q2,q3,c2',c3',z1,hz',hlen2,AF]
 ·have hg:(decide (38<w.net.length)&&c2)=false:=by
   cases c2
   ·simp
   ·simp only[and_true]at hcut;simp[hcut]
  rw[hg];simp only[Bool.false_eq_true,if_false];by_cases hfull:38<w.net.length
  ·have hfull':(40:Int)<(w.net.length:Int)+2:=by omega
   have hc2f:c2=false:=by cases c2;rfl;exact absurd ⟨hfull,rfl⟩ hcut
   subst hc2f;refine⟨[none,none,none,none],⟨_,_,rfl⟩,AA (pf:=p187) rfl (by simp[p187]) ?_⟩;simp[p187,md,y1,hx',e1,hlog,hlog',wn,hfull,hfull',q2,c2']
  have hfull': ¬ (40:Int)<(w.net.length:Int)+2:=by omega
  have g1:(w.log.length+1)*16<=35184372088832:=by omega
  have e2:=Hl (PK:=PK) x cell (w.log.length+1:Nat) hcx.b hcx.bit hcx.wait;have hr:=JK (cell:=cell) (val:=(w.log.length+1:Nat)) hcx;have hps:=Ff (cell:=cell) (val:=(w.log.length+1:Nat)) (i:=a) hida ha;have hpl:=Ks (n:=x) (cell:=cell) (val:=(w.log.length+1:Nat));unfold Kt;rw[hxa];simp only[AJ,lent,fN,AD,AX]at e2;generalize DE x cell (w.log.length+1:Nat)=r at*;obtain⟨q,ps⟩:=r;simp only at e2 hr hps hpl ⊢;have hqc:=hr.1.conn;obtain⟨c3,q3,_,c3',c3d⟩:=A1 q.conn (j:=k) (by omega);rw[hk];simp only[Int.toNat_natCast,c3d];obtain⟨len,hlen⟩: ∃len,len=w.log.length+1:=⟨_,rfl⟩;rw[←hlen]at e2 ⊢;have hlen2:(w.log.length:Int)+1=(len:Int):=by omega
  cases c3
  ·simp only[Bool.false_eq_true,if_false];have hWL:WL {w with log:=w.log++[⟨cell,x.mt.last⟩],nodes:=w.nodes.set a q}:=⟨by simp only[List.length_set];exact hn3,fun y hy=>by
    rcases List.mem_or_eq_of_mem_set hy with hy|rfl
    ·exact hw.L.c3 y hy
    ·exact⟨hr.1.conn,hr.1.copies,hr.1.sync⟩,by simp only;omega⟩
   obtain⟨finS,hfinS,e5⟩:=MG (PK:=PK) {w with log:=w.log++[⟨cell,x.mt.last⟩],nodes:=w.nodes.set a q} [(len:Int)] (by simp) (by simp only;have:=hw.safe;omega);have hWL4:WL (Eo {w with log:=w.log++[⟨cell,x.mt.last⟩],nodes:=w.nodes.set a q} [(len:Int)]):=⟨hWL.n3,hWL.c3,hWL.net⟩;obtain⟨fin,hfin,e4⟩:=Dq (PK:=PK) (Eo {w with log:=w.log++[⟨cell,x.mt.last⟩],nodes:=w.nodes.set a q} [(len:Int)]) ps hWL4 (by omega) hps;generalize F7 (Eo {w with log:=w.log++[⟨cell,x.mt.last⟩],nodes:=w.nodes.set a q} [(len:Int)]) ps=v at*;simp only[AD,AX,fWo,BZ,BK,fI,Eo]at e4 e5;rcases hfinS with rfl|rfl<;>rcases hfin with rfl|⟨rows,rfl⟩
   ·refine⟨[none,none,none,none],⟨_,_,rfl⟩,AA (pf:=p187) rfl (by simp[p187]) ?_⟩;simp (config:={maxSteps:=10000000}) [p187,md,y1,hx',e1,e2,e4,e5,e6,hlog,hlog',wn,hfull,hfull',g1,q3,c3',hlen2,AF]
   ·refine⟨[none,some rows,none,none],⟨_,_,rfl⟩,AA (pf:=p187) rfl (by simp[p187]) ?_⟩;simp (config:={maxSteps:=10000000}) [p187,md,y1,hx',e1,e2,e4,e5,e6,hlog,hlog',wn,hfull,hfull',g1,q3,c3',hlen2,AF]
   ·refine⟨[none,none,none,some (enc fI w.safe)],⟨_,_,rfl⟩,AA (pf:=p187) rfl (by simp[p187]) ?_⟩;simp (config:={maxSteps:=10000000}) [p187,md,y1,hx',e1,e2,e4,e5,e6,hlog,hlog',wn,hfull,hfull',g1,q3,c3',hlen2,AF]
   ·refine⟨[none,some rows,none,some (enc fI w.safe)],⟨_,_,rfl⟩,AA (pf:=p187) rfl (by simp[p187]) ?_⟩;simp (config:={maxSteps:=10000000}) [p187,md,y1,hx',e1,e2,e4,e5,e6,hlog,hlog',wn,hfull,hfull',g1,q3,c3',hlen2,AF]
  ·obtain⟨fin,hfin,e4⟩:=Dq (PK:=PK) {w with log:=w.log++[⟨cell,x.mt.last⟩],nodes:=w.nodes.set a q} ps ⟨by simp only[List.length_set];exact hn3,fun y hy=>by
    rcases List.mem_or_eq_of_mem_set hy with hy|rfl
    ·exact hw.L.c3 y hy
    ·exact⟨hr.1.conn,hr.1.copies,hr.1.sync⟩,by simp only;omega⟩ (by omega) hps
   simp only[if_true];generalize F7 {w with log:=w.log++[⟨cell,x.mt.last⟩],nodes:=w.nodes.set a q} ps=v at*;simp only[AD,AX,fWo]at e4;rcases hfin with rfl|⟨rows,rfl⟩
   ·refine⟨[none,none,none,none],⟨_,_,rfl⟩,AA (pf:=p187) rfl (by simp[p187]) ?_⟩;simp (config:={maxSteps:=10000000}) [p187,md,y1,hx',e1,e2,e4,e6,hlog,hlog',wn,hfull,hfull',g1,q3,c3',hlen2,AF]
   ·refine⟨[none,some rows,none,none],⟨_,_,rfl⟩,AA (pf:=p187) rfl (by simp[p187]) ?_⟩;simp (config:={maxSteps:=10000000}) [p187,md,y1,hx',e1,e2,e4,e6,hlog,hlog',wn,hfull,hfull',g1,q3,c3',hlen2,AF]
def Ll (w:AB) (a b:Nat):AB×Int:=if(FO (nd w a) (nd w b)).2.2 then({w with nodes:=(w.nodes.set a (FO (nd w a) (nd w b)).1).set b (FO (nd w a) (nd w b)).2.1},0)else(w,3)
def Lm (w:AB) (a b:Nat):AB×Int:=if Fk (nd w a) (nd w b)=0 then(w,3)else if Fk (nd w a) (nd w b)=2 then Ll w b a else Ll w a b
theorem Q3 (w:AB) (a b:Nat) (ha:a<3) (hb:b<3) (hab:a≠b) (hw:WI w):AH G PK md 207 [.a (AD (fWo w)),.v (.sc (.int .i64 a)),.v (.sc (.int .i64 b))]=some ⟨[.a (AD (fWo (Lm w a b).1)),.v (.sc (.int .i64 (Lm w a b).2))],[none,none,none,none],[]⟩:=by
 refine AA (pf:=p207) rfl (by simp[p207]) ?_;have hn3:=hw.n3;obtain⟨x,y1,_,hx',hxd,hxm⟩:=Ay w.nodes zN (j:=a) (by omega);obtain⟨y,y2,_,hy',hyd,hym⟩:=Ay w.nodes zN (j:=b) (by omega);have hxa:nd w a=x:=hxd;have hyb:nd w b=y:=hyd;have e1:=Gu (PK:=PK) x y (hw.node x hxm).b.nS (hw.node y hym).b.nS;have e2:=I8 (PK:=PK) x y (hw.node x hxm).b (hw.node y hym).b;have e3:=I8 (PK:=PK) y x (hw.node y hym).b (hw.node x hxm).b;simp only[AJ,lent,fN,AD,AX]at e1 e2 e3;unfold Lm Ll;rw[hxa,hyb];generalize FO x y=r at*;generalize FO y x=t at*;generalize Fk x y=s at*;obtain⟨r1,r2,r3⟩:=r;obtain⟨t1,t2,t3⟩:=t;have hba:b≠a:=hab.symm;by_cases h0:s=0
 ·simp[p207,md,y1,y2,hx',hy',e1,eq_true h0]
 by_cases h2:s=2
 ·cases t3
  ·simp (config:={maxSteps:=10000000}) [p207,md,y1,y2,hx',hy',e1,e3,h0,eq_true h2,hab,hba,List.getElem_set,AF]
  ·simp (config:={maxSteps:=10000000}) [p207,md,y1,y2,hx',hy',e1,e3,h0,eq_true h2,hab,hba,List.getElem_set,AF]
 ·cases r3
  ·simp (config:={maxSteps:=10000000}) [p207,md,y1,y2,hx',hy',e1,e2,h0,h2,hab,hba,List.getElem_set,AF]
  ·simp (config:={maxSteps:=10000000}) [p207,md,y1,y2,hx',hy',e1,e2,h0,h2,hab,hba,List.getElem_set,AF]
end Go.Proofs.YtbolhfegdocpeaaGreat.Ow
