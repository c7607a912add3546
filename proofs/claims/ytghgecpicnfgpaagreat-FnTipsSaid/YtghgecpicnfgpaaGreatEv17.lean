/- Functions evaluated on the small machine: A write: what the reference makes of a world, second Fq, Meeting, falling, rising, copying: what the reference makes of a world, Falling: what the reference makes of a world. -/
import Derived.Test.YtghgecpicnfgpaaGreatEv16
import Derived.Test.YtghgecpicnfgpaaGreatEv11
namespace Go.Proofs.YtghgecpicnfgpaaGreat.Ow
open Go
set_option linter.unusedVariables false
set_option linter.unusedSimpArgs false
set_option maxHeartbeats 16000000
theorem Hu {n:AE} (h:Dh n=true):NOk n/\n.prime=true:=by
 unfold Dh at h;simp only[Bool.and_eq_true]at h;exact⟨Ai h.1.1,h.1.2⟩
@[simp] theorem app_R (l:List Dw) (c u:Int):enc fR l++[[T.sc (I6 c),T.sc (I6 u)]]=enc fR (l++[⟨c,u⟩]):=by simp[enc]
theorem SY [PKI] (w:AB) (a:Nat) (cell:Int) (ha:a<3) (hw:WI w): ∃fin,SN fin/\sG 174 [.a (AA (fWo w)),.v (.sc (I6 a)),.v (.sc (I6 cell))]=some ⟨[.a (AA (fWo (FT w a cell).1)),.v (.sc (I6 (FT w a cell).2))],fin,[]⟩:=by
 have hn3:=hw.n3;obtain⟨x,y1,hx1,hx',hxd,hxm⟩:=AX w.nodes zN (j:=a) (by omega);have hxa:nd w a=x:=hxd;have hcx:=hw.node x hxm;have e1:=L2 x hcx.b.nS;simp only[AD,lent,fN]at e1;unfold FT JU;rw[hxa]
 cases hmw:Dh x
 ·rw[hmw]at e1;refine⟨[none,none,none,none],⟨_,_,rfl⟩,sK p174 ?_⟩;simp[p174,  y1,hx',e1]
 rw[hmw]at e1;obtain⟨nx,hpr⟩:=Hu hmw;by_cases hlog:200<=w.log.length
 ·have hlog':(200:Int)<=w.log.length:=by omega
  refine⟨[none,none,none,none],⟨_,_,rfl⟩,sK p174 ?_⟩;simp[p174,  y1,hx',e1,hlog,hlog']
 have hlog': ¬ (200:Int)<=w.log.length:=by omega
 have hnet:=hw.net;have wn:IntKind.wrap .i64 ((w.net.length:Int)+2)=(w.net.length:Int)+2:=AC (by omega) (by omega);obtain⟨k,k2,hk⟩:=Kh nx hpr;have hida:=hw.id a ha;rw[hxa]at hida;rw[hida]at hk;have e6:=DQ a;rw[hk]at e6;have hc2:=hcx.b.conn;obtain⟨c2,q2,_,c2',c2d⟩:=Aj x.conn (j:=2) (by omega);rw[c2d];by_cases hcut:38<w.net.length/\c2=true
 ·obtain⟨hbig,rfl⟩:=hcut;have hbig':(40:Int)<(w.net.length:Int)+2:=by omega
  have hg:(decide (38<w.net.length)&&true)=true:=by simp[hbig]
  rw[hg];simp only[if_true];have ha2:a≠2:=by
   have:=nx.prime hpr;intro h;subst h;exact this.2 hida
  have e3:=Gl w a 2 hn3 ha (by omega) ha2 (by omega) hw.L.c3;have hWI:=LL hw ha (show 2<3 by omega) ha2;have hx1c:=Nu (w:=w) hn3 ha ha2;rw[hxa]at hx1c;have hlog1:(CQ w a 2).log=w.log:=rfl;have hsafe1:(CQ w a 2).safe=w.safe:=rfl;have hgen1:(CQ w a 2).gen=w.gen:=rfl;simp only[AA,AJ,fWo]at e3;rw[show ((2:Nat):Int)=2 from rfl]at e3;generalize FF w.net a 2 w.net.length=hr1 at*;generalize CQ w a 2=v1 at*;obtain⟨x1,z1,hz1,hz',hzd,hzm⟩:=AX v1.nodes zN (j:=a) (by have:=hWI.n3;omega);have hxv:nd v1 a=x1:=hzd;rw[hxv]at hx1c;have hnet1:=hWI.net;have wn1:IntKind.wrap .i64 ((v1.net.length:Int)+2)=(v1.net.length:Int)+2:=AC (by omega) (by omega);by_cases hfull:38<v1.net.length
  ·have hfull':(40:Int)<(v1.net.length:Int)+2:=by omega
   refine⟨[none,some hr1,none,none],⟨_,_,rfl⟩,sK p174 ?_⟩;simp (maxSteps:=9999999) [p174,  y1,hx',e1,e3,hlog,hlog',wn,wn1,hbig,hbig',hfull,hfull',q2,c2']
  have hfull': ¬ (40:Int)<(v1.net.length:Int)+2:=by omega
  have g1:(v1.log.length+1)*16<=35184372088832:=by have:=hWI.log;omega
  have hcx1:=hWI.node x1 hzm;have hid1:x1.id=a:=by rw[<-hxv];exact hWI.id a ha
  have e2:=JG x1 cell (v1.log.length+1:Nat) hcx1.b hcx1.bit hcx1.wait;have hr:=GN (cell:=cell) (val:=(v1.log.length+1:Nat)) hcx1;have hps:=EA (cell:=cell) (val:=(v1.log.length+1:Nat)) (i:=a) hid1 ha;have hpl:=NR (n:=x1) (cell:=cell) (val:=(v1.log.length+1:Nat));unfold JV;rw[hxv];simp only[AD,lent,fN,AA,AJ]at e2;generalize Bd x1 cell (v1.log.length+1:Nat)=r at*;obtain⟨q,ps⟩:=r;simp only at e2 hr hps hpl ⊢;have hqc:=hr.1.conn;obtain⟨c3,q3,_,c3',c3d⟩:=Aj q.conn (j:=k) (by omega);rw[hk];simp only[Int.toNat_natCast,c3d];obtain⟨len,hlen⟩: ∃len,len=v1.log.length+1:=⟨_,rfl⟩;rw[<-hlen]at e2 ⊢;have hlen2:(v1.log.length:Int)+1=(len:Int):=by omega
  have hWL:WL {v1 with log:=v1.log++[⟨cell,x1.mt.last⟩],nodes:=v1.nodes.set a q}:=⟨by simp only[List.length_set];exact hWI.n3,λy hy=>by
   rcases List.mem_or_eq_of_mem_set hy with hy|rfl
   ·exact hWI.L.c3 y hy
   ·exact⟨hr.1.conn,hr.1.copies,hr.1.sync⟩,by simp only;omega⟩
  cases c3
  ·simp only[Bool.false_eq_true,if_false];obtain⟨finS,hfinS,e5⟩:=OU {v1 with log:=v1.log++[⟨cell,x1.mt.last⟩],nodes:=v1.nodes.set a q} [(len:Int)] (by simp) (by simp only;have:=hWI.safe;omega);have hWL4:WL (El {v1 with log:=v1.log++[⟨cell,x1.mt.last⟩],nodes:=v1.nodes.set a q} [(len:Int)]):=⟨hWL.n3,hWL.c3,hWL.net⟩;obtain⟨fin,hfin,e4⟩:=Ee (El {v1 with log:=v1.log++[⟨cell,x1.mt.last⟩],nodes:=v1.nodes.set a q} [(len:Int)]) ps hWL4 (by omega) hps;generalize DA (El {v1 with log:=v1.log++[⟨cell,x1.mt.last⟩],nodes:=v1.nodes.set a q} [(len:Int)]) ps=v at*;simp only[AA,AJ,fWo,BN,BA,fI,El]at e4 e5;rcases hfinS with rfl|rfl<;>rcases hfin with rfl|⟨rows,rfl⟩
   ·refine⟨[none,some hr1,none,none],⟨_,_,rfl⟩,sK p174 ?_⟩;simp (maxSteps:=9999999) [p174,  y1,hx',e1,e2,e3,e4,e5,e6,hlog,hlog',wn,wn1,hbig,hbig',hfull,hfull',g1,q2,q3,c2',c3',z1,hz',hlen2]
   ·refine⟨[none,some hr1,none,none],⟨_,_,rfl⟩,sK p174 ?_⟩;simp (maxSteps:=9999999) [p174,  y1,hx',e1,e2,e3,e4,e5,e6,hlog,hlog',wn,wn1,hbig,hbig',hfull,hfull',g1,q2,q3,c2',c3',z1,hz',hlen2]
   ·refine⟨[none,some hr1,none,none],⟨_,_,rfl⟩,sK p174 ?_⟩;simp (maxSteps:=9999999) [p174,  y1,hx',e1,e2,e3,e4,e5,e6,hlog,hlog',wn,wn1,hbig,hbig',hfull,hfull',g1,q2,q3,c2',c3',z1,hz',hlen2]
   ·refine⟨[none,some hr1,none,none],⟨_,_,rfl⟩,sK p174 ?_⟩;simp (maxSteps:=9999999) [p174,  y1,hx',e1,e2,e3,e4,e5,e6,hlog,hlog',wn,wn1,hbig,hbig',hfull,hfull',g1,q2,q3,c2',c3',z1,hz',hlen2]
  ·obtain⟨fin,hfin,e4⟩:=Ee {v1 with log:=v1.log++[⟨cell,x1.mt.last⟩],nodes:=v1.nodes.set a q} ps hWL (by omega) hps;simp only[if_true];generalize DA {v1 with log:=v1.log++[⟨cell,x1.mt.last⟩],nodes:=v1.nodes.set a q} ps=v at*;simp only[AA,AJ,fWo]at e4;rcases hfin with rfl|⟨rows,rfl⟩
   ·refine⟨[none,some hr1,none,none],⟨_,_,rfl⟩,sK p174 ?_⟩;simp (maxSteps:=9999999) [p174,  y1,hx',e1,e2,e3,e4,e6,hlog,hlog',wn,wn1,hbig,hbig',hfull,hfull',g1,q2,q3,c2',c3',z1,hz',hlen2]
   ·refine⟨[none,some hr1,none,none],⟨_,_,rfl⟩,sK p174 ?_⟩;simp (maxSteps:=9999999) [p174,  y1,hx',e1,e2,e3,e4,e6,hlog,hlog',wn,wn1,hbig,hbig',hfull,hfull',g1,q2,q3,c2',c3',z1,hz',hlen2]
 ·have hg:(decide (38<w.net.length)&&c2)=false:=by
   cases c2
   ·simp
   ·simp only[and_true]at hcut;simp[hcut]
  rw[hg];simp only[Bool.false_eq_true,if_false];by_cases hfull:38<w.net.length
  ·have hfull':(40:Int)<(w.net.length:Int)+2:=by omega
   have hc2f:c2=false:=by cases c2;rfl;exact absurd ⟨hfull,rfl⟩ hcut
   subst hc2f;refine⟨[none,none,none,none],⟨_,_,rfl⟩,sK p174 ?_⟩;simp[p174,  y1,hx',e1,hlog,hlog',wn,hfull,hfull',q2,c2']
  have hfull': ¬ (40:Int)<(w.net.length:Int)+2:=by omega
  have g1:(w.log.length+1)*16<=35184372088832:=by omega
  have e2:=JG x cell (w.log.length+1:Nat) hcx.b hcx.bit hcx.wait;have hr:=GN (cell:=cell) (val:=(w.log.length+1:Nat)) hcx;have hps:=EA (cell:=cell) (val:=(w.log.length+1:Nat)) (i:=a) hida ha;have hpl:=NR (n:=x) (cell:=cell) (val:=(w.log.length+1:Nat));unfold JV;rw[hxa];simp only[AD,lent,fN,AA,AJ]at e2;generalize Bd x cell (w.log.length+1:Nat)=r at*;obtain⟨q,ps⟩:=r;simp only at e2 hr hps hpl ⊢;have hqc:=hr.1.conn;obtain⟨c3,q3,_,c3',c3d⟩:=Aj q.conn (j:=k) (by omega);rw[hk];simp only[Int.toNat_natCast,c3d];obtain⟨len,hlen⟩: ∃len,len=w.log.length+1:=⟨_,rfl⟩;rw[<-hlen]at e2 ⊢;have hlen2:(w.log.length:Int)+1=(len:Int):=by omega
  cases c3
  ·simp only[Bool.false_eq_true,if_false];have hWL:WL {w with log:=w.log++[⟨cell,x.mt.last⟩],nodes:=w.nodes.set a q}:=⟨by simp only[List.length_set];exact hn3,λy hy=>by
    rcases List.mem_or_eq_of_mem_set hy with hy|rfl
    ·exact hw.L.c3 y hy
    ·exact⟨hr.1.conn,hr.1.copies,hr.1.sync⟩,by simp only;omega⟩
   obtain⟨finS,hfinS,e5⟩:=OU {w with log:=w.log++[⟨cell,x.mt.last⟩],nodes:=w.nodes.set a q} [(len:Int)] (by simp) (by simp only;have:=hw.safe;omega);have hWL4:WL (El {w with log:=w.log++[⟨cell,x.mt.last⟩],nodes:=w.nodes.set a q} [(len:Int)]):=⟨hWL.n3,hWL.c3,hWL.net⟩;obtain⟨fin,hfin,e4⟩:=Ee (El {w with log:=w.log++[⟨cell,x.mt.last⟩],nodes:=w.nodes.set a q} [(len:Int)]) ps hWL4 (by omega) hps;generalize DA (El {w with log:=w.log++[⟨cell,x.mt.last⟩],nodes:=w.nodes.set a q} [(len:Int)]) ps=v at*;simp only[AA,AJ,fWo,BN,BA,fI,El]at e4 e5;rcases hfinS with rfl|rfl<;>rcases hfin with rfl|⟨rows,rfl⟩
   ·refine⟨[none,none,none,none],⟨_,_,rfl⟩,sK p174 ?_⟩;simp (maxSteps:=9999999) [p174,  y1,hx',e1,e2,e4,e5,e6,hlog,hlog',wn,hfull,hfull',g1,q3,c3',hlen2]
   ·refine⟨[none,some rows,none,none],⟨_,_,rfl⟩,sK p174 ?_⟩;simp (maxSteps:=9999999) [p174,  y1,hx',e1,e2,e4,e5,e6,hlog,hlog',wn,hfull,hfull',g1,q3,c3',hlen2]
   ·refine⟨[none,none,none,some (enc fI w.safe)],⟨_,_,rfl⟩,sK p174 ?_⟩;simp (maxSteps:=9999999) [p174,  y1,hx',e1,e2,e4,e5,e6,hlog,hlog',wn,hfull,hfull',g1,q3,c3',hlen2]
   ·refine⟨[none,some rows,none,some (enc fI w.safe)],⟨_,_,rfl⟩,sK p174 ?_⟩;simp (maxSteps:=9999999) [p174,  y1,hx',e1,e2,e4,e5,e6,hlog,hlog',wn,hfull,hfull',g1,q3,c3',hlen2]
  ·obtain⟨fin,hfin,e4⟩:=Ee {w with log:=w.log++[⟨cell,x.mt.last⟩],nodes:=w.nodes.set a q} ps ⟨by simp only[List.length_set];exact hn3,λy hy=>by
    rcases List.mem_or_eq_of_mem_set hy with hy|rfl
    ·exact hw.L.c3 y hy
    ·exact⟨hr.1.conn,hr.1.copies,hr.1.sync⟩,by simp only;omega⟩ (by omega) hps
   simp only[if_true];generalize DA {w with log:=w.log++[⟨cell,x.mt.last⟩],nodes:=w.nodes.set a q} ps=v at*;simp only[AA,AJ,fWo]at e4;rcases hfin with rfl|⟨rows,rfl⟩
   ·refine⟨[none,none,none,none],⟨_,_,rfl⟩,sK p174 ?_⟩;simp (maxSteps:=9999999) [p174,  y1,hx',e1,e2,e4,e6,hlog,hlog',wn,hfull,hfull',g1,q3,c3',hlen2]
   ·refine⟨[none,some rows,none,none],⟨_,_,rfl⟩,sK p174 ?_⟩;simp (maxSteps:=9999999) [p174,  y1,hx',e1,e2,e4,e6,hlog,hlog',wn,hfull,hfull',g1,q3,c3',hlen2]
def Ls (w:AB) (a b:Nat):AB×Int:=if(EK (nd w a) (nd w b)).2.2 then({w with nodes:=(w.nodes.set a (EK (nd w a) (nd w b)).1).set b (EK (nd w a) (nd w b)).2.1},0)else(w,3)
def H0 (w:AB) (a b:Nat):AB×Int:=if EY (nd w a) (nd w b)=0 then(w,3)else if EY (nd w a) (nd w b)=2 then Ls w b a else Ls w a b
theorem Tl [PKI] (w:AB) (a b:Nat) (ha:a<3) (hb:b<3) (hab:a≠b) (hw:WI w):sG 219 [.a (AA (fWo w)),.v (.sc (I6 a)),.v (.sc (I6 b))]=some ⟨[.a (AA (fWo (H0 w a b).1)),.v (.sc (I6 (H0 w a b).2))],[none,none,none,none],[]⟩:=by
 refine sK p219 ?_;have hn3:=hw.n3;obtain⟨x,y1,_,hx',hxd,hxm⟩:=AX w.nodes zN (j:=a) (by omega);obtain⟨y,y2,_,hy',hyd,hym⟩:=AX w.nodes zN (j:=b) (by omega);have hxa:nd w a=x:=hxd;have hyb:nd w b=y:=hyd;have e1:=H8 x y (hw.node x hxm).b.nS (hw.node y hym).b.nS;have e2:=Kw x y (hw.node x hxm).b (hw.node y hym).b;have e3:=Kw y x (hw.node y hym).b (hw.node x hxm).b;simp only[AD,lent,fN,AA,AJ]at e1 e2 e3;unfold H0 Ls;rw[hxa,hyb];generalize EK x y=r at*;generalize EK y x=t at*;generalize EY x y=s at*;obtain⟨r1,r2,r3⟩:=r;obtain⟨t1,t2,t3⟩:=t;have hba:b≠a:=hab.symm;by_cases h0:s=0
 ·simp[p219,  y1,y2,hx',hy',e1,eq_true h0]
 by_cases h2:s=2
 ·cases t3
  ·simp (maxSteps:=9999999) [p219,  y1,y2,hx',hy',e1,e3,h0,eq_true h2,hab,hba,List.getElem_set]
  ·simp (maxSteps:=9999999) [p219,  y1,y2,hx',hy',e1,e3,h0,eq_true h2,hab,hba,List.getElem_set]
 ·cases r3
  ·simp (maxSteps:=9999999) [p219,  y1,y2,hx',hy',e1,e2,h0,h2,hab,hba,List.getElem_set]
  ·simp (maxSteps:=9999999) [p219,  y1,y2,hx',hy',e1,e2,h0,h2,hab,hba,List.getElem_set]
def dnF (a:Nat) (s:SdS) (k:Nat):SdS:=if EM s.w a k then⟨CQ s.w a k,2,if s.sh=0 then FF s.w.net a k s.w.net.length else s.rows⟩else s
def On (w:AB) (a:Nat):SdS:=(List.range 3).foldl (dnF a) ⟨w,0,[]⟩
def Ml (w:AB) (a:Nat):AB:={(On w a).w with nodes:=(On w a).w.nodes.set a (H6 (nd (On w a).w a))}
structure DnI (a:Nat) (s:SdS):Prop where
 w:WI s.w
 sh:s.sh=0\/s.sh=2
 self:EM s.w a a=false
theorem cn_cut {w:AB} {a b:Nat} (h:WI w) (ha:a<3) (hb:b<3) (hab:a≠b):EM (CQ w a b) a a=EM w a a:=by
 unfold EM;simp only[Int.toNat_natCast];rw[Nu h.n3 ha hab];unfold Cr;simp only[List.getD_eq_getElem?_getD,List.getElem?_set];rw[if_neg hab.symm]
theorem dnF_I {a:Nat} (ha:a<3) {s:SdS} (h:DnI a s) {k:Nat} (hk:k<3):DnI a (dnF a s k):=by
 unfold dnF;split
 ·rename_i hc;have hak:a≠k:=λe=>by subst e;rw[h.self]at hc;cases hc
  exact⟨LL h.w ha hk hak,.inr rfl,by rw[cn_cut h.w ha hk hak];exact h.self⟩
 ·exact h
theorem CM {β:Type} (f:β->Nat->β) (o:β) (j:Nat):(List.range (j+1)).foldl f o=f ((List.range j).foldl f o) j:=by rw[List.range_succ,List.foldl_append];rfl
theorem LJ {w:AB} {a:Nat} (ha:a<3) (h:DnI a ⟨w,0,[]⟩): ∀j,j<=3->DnI a ((List.range j).foldl (dnF a) ⟨w,0,[]⟩)
 |0,_=>h
 |j+1,hj=>by rw[CM];exact dnF_I ha (LJ ha h j (by omega)) (by omega)
@[simp] def st224 (a:Int) (s:SdS) (j:Nat):St:={n:=34,m:=4,tm:=[(1,.sc (I6 a)),(2,.pb 10000000 0),(4,.pb 10000001 0),(5,.sc (I6 j))],ob:=obW s.w s.sh s.rows 10000000}
theorem lp_Down [PKI] (w:AB) (a:Nat) (ha:a<3) (h:DnI a ⟨w,0,[]⟩): ∀ (t:St),t.m<=10000000->Aa 10000000 [1,2,4,5] t=st224 a ⟨w,0,[]⟩ 0->A6 G PK md 10000000 [1,2,4,5] b224_0 t=xG b224_0 (st224 a (On w a) 3):=
 @lok _ 10000000 [1,2,4,5] b224_0 (λj=>st224 a ((List.range j).foldl (dnF a) ⟨w,0,[]⟩) j) 3 (λj hj=>by
  have hi:=LJ ha h j (by omega);simp only[CM];generalize (List.range j).foldl (dnF a) ⟨w,0,[]⟩=s at*;obtain⟨v,sh,rows⟩:=s;obtain⟨hW,hsh,hself⟩:=hi;simp only at hW hsh hself;have hinc:=Ar hj (by omega);have hn3:=hW.n3;obtain⟨x,y1,hxi,hxi',hxd,hxm⟩:=AX v.nodes zN (j:=a) (by omega);have hxn:nd v a=x:=hxd;obtain⟨c,q1,_,c1',hcd⟩:=Aj x.conn (j:=j) (by have:=(hW.node x hxm).b.conn;omega);have hcn:EM v a j=c:=by unfold EM;simp only[Int.toNat_natCast];rw[hxn,hcd]
  have hj3:(j:Int)<3:=by omega
  unfold dnF;simp only[hcn]
  cases c
  ·rcases hsh with rfl|rfl<;>simp[b224_0,  hj3,y1,hxi',q1,c1',hinc]
  ·have hak:a≠j:=λe=>by subst e;rw[hself]at hcn;cases hcn
   have e1:=Gl v a j hn3 ha hj hak (by have:=hW.net;omega) hW.L.c3;simp only[AA,AJ,fWo]at e1;generalize CQ v a j=cw at*;generalize FF v.net a j v.net.length=hr at*;rcases hsh with rfl|rfl<;>simp[b224_0,  hj3,y1,hxi',q1,c1',hinc,e1]) (by
  have hi:=LJ ha h 3 (by omega);generalize (List.range 3).foldl (dnF a) ⟨w,0,[]⟩=s at*;obtain⟨v,sh,rows⟩:=s;rcases hi.sh with h1|h1<;>simp only at h1<;>subst h1<;>simp[b224_0])
theorem OW [PKI] (w:AB) (a:Nat) (ha:a<3) (h:DnI a ⟨w,0,[]⟩): ∃fin,Tc fin/\sG 224 [.a (AA (fWo w)),.v (.sc (I6 a))]=some ⟨[.a (AA (fWo (Ml w a)))],fin,[]⟩:=by
 have h1:=lp_Down w a ha h;have hi:=LJ ha h 3 (by omega);unfold Ml;unfold On at*;generalize (List.range 3).foldl (dnF a) ⟨w,0,[]⟩=s at*;obtain⟨v,sh,rows⟩:=s;obtain⟨hW,hsh,hself⟩:=hi;simp only at hW hsh hself ⊢;obtain⟨x,y1,hxi,hxi',hxd,hxm⟩:=AX v.nodes zN (j:=a) (by have:=hW.n3;omega);have hxn:nd v a=x:=hxd;rw[hxn];have e1:=Q5 x (hW.node x hxm).b.nS;simp only[AD,lent,fN,AA,AJ]at e1;generalize H6 x=q at*;rcases hsh with rfl|rfl
 ·refine⟨[none,none,none,none],.inl rfl,sK p224 ?_⟩;simp[p224];rw[h1]
  ·simp (maxSteps:=9999999) [b224_0,y1,hxi',e1,  CV]
  ·simp
  ·simp
 ·refine⟨[none,some rows,none,none],.inr ⟨_,rfl⟩,sK p224 ?_⟩;simp[p224];rw[h1]
  ·simp (maxSteps:=9999999) [b224_0,y1,hxi',e1,  CV]
  ·simp
  ·simp
end Go.Proofs.YtghgecpicnfgpaaGreat.Ow
