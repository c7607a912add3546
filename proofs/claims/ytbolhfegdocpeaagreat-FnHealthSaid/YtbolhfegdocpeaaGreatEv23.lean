/- Functions evaluated on the small machine: Roles: what the reference makes of a world, What is given from a wire: the loop that tells safe what is no longer waited for. -/
import Derived.Test.YtbolhfegdocpeaaGreatEv21
namespace Go.Proofs.YtbolhfegdocpeaaGreat.Ow
open Go
set_option linter.unusedVariables false
set_option linter.unusedSimpArgs false
set_option maxHeartbeats 16000000
variable {PK:Nat->List Arg->Option Res}
def LQ (w:AB):Bool:=w.net.all fun x=>KS x.src x.dst
def LL (w:AB) (kind:Int) (a b:Nat):AB×Int:=
 if kind=10 then(if(Gn (nd w a) (nd w b) w.gen).2.2 then({w with nodes:=(w.nodes.set a (Gn (nd w a) (nd w b) w.gen).1).set b (Gn (nd w a) (nd w b) w.gen).2.1,safe:=EI w.safe (nd w a).wait,gen:=w.gen+1},0)else(w,3))
 else if kind=11 then(if(Lj (nd w a) (nd w b) (LQ w)).2 then({w with nodes:=w.nodes.set a (Lj (nd w a) (nd w b) (LQ w)).1},0)else(w,3))
 else if(IF (nd w a)).2 then({w with nodes:=w.nodes.set a (IF (nd w a)).1},0)else(w,3)
@[simp] def xbox (a:Nat) (n:AG):Obj:= .box [.sc (.int .i64 n.id),.sc (.bool n.up),.sc (.bool n.prime),.ref 0 [(a,3)],.ref 0 [(a,4)],.ref 0 [(a,5)],.sc (.bool n.mt.fine),.sc (.bool n.mt.old),.sc (.bool n.mt.held),.sc (.int .i64 n.mt.last),.ref 0 [(a,10)],.ref 0 [(a,11)],.ref 0 [(a,12)],.ref 0 [(a,13)],.ref 0 [(a,14)],.ref 0 [(a,15)]]
@[simp] def st190 (w:AB) (x y:AG) (d:D5) (a b:Nat) (q:Bool) (j:Nat):St:={n:=129,m:=4,tm:=[(2,.pb 10000100 0),(3,.pb 10000101 0),(4,.pb 10000102 0),(6,.pb 10000103 0),(7,.pb 10000104 0),(11,.sc (.bool q)),(12,.sc (.int .i64 j))],ob:=[(0,.arr 16 (enc fN w.nodes)),(1,.arr 3 (enc fW w.net)),(2,.arr 2 (enc fR w.log)),(3,.arr 1 (enc fI w.safe)),(10000100,.box [.ref 0 [],.ref 1 [],.ref 2 [],.ref 3 [],.sc (.int .i64 w.gen)]),(10000101,.box [.sc (.int .i64 d.kind),.sc (.int .i64 d.a),.sc (.int .i64 d.b)]),(10000102,.box [.nil 16,.nil 3,.nil 2,.nil 1,.sc (.int .i64 0)]),(10000103,xbox a x),(10000104,xbox b y)]}
theorem lp_Role (w:AB) (x y:AG) (d:D5) (a b:Nat) (hn:w.net.length<=1000): ∀ (t:St),t.m<=10000100->Ai 10000100 [2,3,4,6,7,11,12] t=st190 w x y d a b true 0->Ag G PK md 10000100 [2,3,4,6,7,11,12] b190_0 t=An (AH G PK md) (Ag G PK md) md b190_0 (st190 w x y d a b (LQ w) w.net.length):=by
 have hf:w.net.take w.net.length=w.net:=List.take_length;have h:=AL (G:=G) (PK:=PK) (md:=md) (o:=10000100) (live:=[2,3,4,6,7,11,12]) (c:=b190_0) (fun j=>st190 w x y d a b ((w.net.take j).all fun x=>KS x.src x.dst) j) w.net.length (fun j hj=>by
  obtain⟨v,y1,hv,hv',_,hvm⟩:=Ay w.net zW hj;have hinc:=A2 hj (by omega);have hsn:(w.net.take (j+1)).all (fun x=>KS x.src x.dst)=((w.net.take j).all (fun x=>KS x.src x.dst)&&KS v.src v.dst):=by rw[EP hv,List.all_append];simp
  rw[hsn];have e:=Jp (PK:=PK) v.src v.dst;generalize (w.net.take j).all (fun x=>KS x.src x.dst)=q
  cases q<;>simp[b190_0,md,hj,hv',hinc,e]) (by simp[b190_0])
 simp only[hf]at h;exact h
theorem Pv (w:AB) (kind b:Int):AH G PK md 190 [.a (AD (fWo w)),.a (AJ (fD ⟨kind,2,b⟩))]=some ⟨[.a (AD (fWo w)),.v (.sc (.int .i64 3))],[none,none,none,none],[]⟩:=by
 refine AA (pf:=p190) rfl (by simp[p190]) ?_;simp[p190,md]
theorem Q1 (w:AB) (kind b0:Int) (a b:Nat) (hab:a=0/\b=1\/a=1/\b=0) (hw:WI w) (hg:0<=w.gen/\w.gen<=100000): ∃fin,Pk fin/\AH G PK md 190 [.a (AD (fWo w)),.a (AJ (fD ⟨kind,a,b0⟩))]=some ⟨[.a (AD (fWo (LL w kind a b).1)),.v (.sc (.int .i64 (LL w kind a b).2))],fin,[]⟩:=by
 have hn3:=hw.n3;obtain⟨x,y1,_,hx',hxd,hxm⟩:=Ay w.nodes zN (j:=a) (by omega);obtain⟨y,y2,_,hy',hyd,hym⟩:=Ay w.nodes zN (j:=b) (by omega);have hxa:nd w a=x:=hxd;have hyb:nd w b=y:=hyd;have hcx:=hw.node x hxm;have hcy:=hw.node y hym;have hne:a≠b:=by omega
 have hne':b≠a:=by omega
 have ha2: ¬ (a:Int)=2:=by omega
 have ha2': ¬a=2:=by omega
 have w1:IntKind.wrap .i64 (1 - (a:Int))=(b:Int):=by rw[AC (by omega) (by omega)];omega
 unfold LL;rw[hxa,hyb];by_cases h10:kind=10
 ·subst h10;have e1:=OW (PK:=PK) x y w.gen hcx.b hcy.b hcx.gens;simp only[AJ,lent,fN,AD,AX]at e1;generalize Gn x y w.gen=r at*;obtain⟨r1,r2,r3⟩:=r;simp only at e1 ⊢
  cases r3
  ·refine⟨_,⟨none,none,rfl⟩,AA (pf:=p190) rfl (by simp[p190]) ?_⟩;simp (config:={maxSteps:=10000000}) [p190,md,y1,y2,hx',hy',ha2,ha2',w1,e1,hne,hne',AF]
  ·have hwl:=hcx.wait;have w2:IntKind.wrap .i64 (w.gen+1)=w.gen+1:=AC (by omega) (by omega);obtain⟨fin,hfin,e2⟩:=Gy (PK:=PK) ((enc fN w.nodes).set a [.sc (.int .i64 x.id),.sc (.bool x.up),.sc (.bool x.prime),.sl 1 (enc fI x.image),.sl 1 (enc fI x.mt.gens),.sl 1 (enc fII x.mt.bits),.sc (.bool x.mt.fine),.sc (.bool x.mt.old),.sc (.bool x.mt.held),.sc (.int .i64 x.mt.last),
    .sl 1 (enc fU x.sl.a),.sl 1 (enc fU x.sl.b),.sl 1 (enc fL x.conn),.sl 1 (enc fII x.sync),.sl 1 (enc fL x.copies),.hole]) w x.wait (by omega) (by have:=hw.safe;omega)
   have hst: ∀ (p q:AG),((w.nodes.set a p).set b q)=(w.nodes.set a p).set b q:=fun _ _=>rfl
   rcases hfin with ⟨rfl,_⟩|⟨rfl,_⟩
   ·refine⟨_,⟨none,none,rfl⟩,AA (pf:=p190) rfl (by simp[p190]) ?_⟩;simp (config:={maxSteps:=10000000}) [p190,md,y1,y2,hx',hy',ha2,ha2',w1,w2,e1,e2,hne,hne',AF,List.getElem_set]
   ·refine⟨_,⟨none,some (enc fI w.safe),rfl⟩,AA (pf:=p190) rfl (by simp[p190]) ?_⟩;simp (config:={maxSteps:=10000000}) [p190,md,y1,y2,hx',hy',ha2,ha2',w1,w2,e1,e2,hne,hne',AF,List.getElem_set]
 by_cases h11:kind=11
 ·subst h11;have e1:=OV (PK:=PK) x y (LQ w) hcx.b.nS hcy.b.nS;have hlp:=lp_Role (PK:=PK) w x y ⟨11,a,b0⟩ a b (by have:=hw.net;omega);simp only[AJ,lent,fN,AD,AX]at e1;generalize LQ w=qt at*;generalize Lj x y qt=r at*;obtain⟨r1,r2⟩:=r;simp only at e1 ⊢;refine⟨_,⟨none,none,rfl⟩,AA (pf:=p190) rfl (by simp[p190]) ?_⟩;simp (config:={maxSteps:=10000000}) [p190,md,y1,y2,hx',hy',ha2,ha2',w1,hne,hne',AF];rw[hlp]
  ·cases r2
   ·simp (config:={maxSteps:=10000000}) [b190_0,md,y1,y2,hx',hy',ha2,ha2',w1,e1,hne,hne',AF]
   ·simp (config:={maxSteps:=10000000}) [b190_0,md,y1,y2,hx',hy',ha2,ha2',w1,e1,hne,hne',AF]
  ·simp
  ·simp
 ·have e1:=Mz (PK:=PK) x hcx.b.nS;simp only[AJ,lent,fN,AD,AX]at e1;generalize IF x=r at*;obtain⟨r1,r2⟩:=r;simp only at e1 ⊢;refine⟨_,⟨none,none,rfl⟩,AA (pf:=p190) rfl (by simp[p190]) ?_⟩
  cases r2
  ·simp (config:={maxSteps:=10000000}) [p190,md,y1,y2,hx',hy',ha2,ha2',h10,h11,w1,e1,hne,hne',AF]
  ·simp (config:={maxSteps:=10000000}) [p190,md,y1,y2,hx',hy',ha2,ha2',h10,h11,w1,e1,hne,hne',AF]
structure GvS where
 s:List Int
 sh:Nat
def gvF (q:List Int) (g:GvS) (x:Int):GvS:=if x∈q then g else⟨DG g.s x,if g.sh=0 then(if(DG g.s x).length=g.s.length then 2 else 1)else g.sh⟩
theorem gv_s (q:List Int): ∀ (l:List Int) (g:GvS),(l.foldl (gvF q) g).s=EI g.s (l.filter fun n=> !decide (n∈q))
 |[],g=>rfl
 |x::l,g=>by
  have h1:(x::l).foldl (gvF q) g=l.foldl (gvF q) (gvF q g x):=rfl;rw[h1,gv_s q l];by_cases hx:x∈q
  ·have h2:gvF q g x=g:=by unfold gvF;rw[if_pos hx]
   have h3:(x::l).filter (fun n=> !decide (n∈q))=l.filter (fun n=> !decide (n∈q)):=by simp[hx]
   rw[h2,h3]
  ·have h2:(gvF q g x).s=DG g.s x:=by unfold gvF;rw[if_neg hx]
   have h3:(x::l).filter (fun n=> !decide (n∈q))=x::l.filter (fun n=> !decide (n∈q)):=by simp[hx]
   rw[h2,h3];rfl
theorem Rs (q:List Int) (s0:List Int): ∀ (l:List Int) (g:GvS),g.sh<3/\(g.sh=0->g.s=s0)->(l.foldl (gvF q) g).sh<3/\((l.foldl (gvF q) g).sh=0->(l.foldl (gvF q) g).s=s0)
 |[],g,h=>h
 |x::l,g,h=>by
  simp only[List.foldl_cons];refine Rs q s0 l _ ?_;unfold gvF;split
  ·exact h
  ·simp only;split
   ·split<;>exact⟨by omega,fun h=>by omega⟩
   ·exact⟨h.1,fun h2=>by omega⟩
@[simp] def Tn (n:AG) (q:Nat):Obj:= .box [.sc (.int .i64 n.id),.sc (.bool n.up),.sc (.bool n.prime),.ref 0 [(q,3)],.ref 0 [(q,4)],.ref 0 [(q,5)],.sc (.bool n.mt.fine),.sc (.bool n.mt.old),.sc (.bool n.mt.held),.sc (.int .i64 n.mt.last),.ref 0 [(q,10)],.ref 0 [(q,11)],.ref 0 [(q,12)],.ref 0 [(q,13)],.ref 0 [(q,14)],.ref 0 [(q,15)]]
@[simp] def obV (w:AB) (R:List (List T)) (r1:AG) (q:Nat) (wt:List Int) (ps:List Ci) (g:GvS) (o:Nat):List (Nat×Obj):=
 if g.sh=0 then [(0,.arr 16 (enc fN w.nodes)),(1,.arr 3 R),(2,.arr 2 (enc fR w.log)),(3,.arr 1 (enc fI g.s)),(o,.box [.ref 0 [],.ref (o+5) [],.ref 2 [],.ref 3 [],.sc (.int .i64 w.gen)]),(o+1,.box [.nil 16,.nil 3,.nil 2,.nil 1,.sc (.int .i64 0)]),(o+2,.arr 1 (enc fI wt)),(o+3,Tn r1 q),(o+4,.arr 7 (enc fP ps)),(o+5,.arr 3 (enc fW w.net))]
 else if g.sh=1 then [(0,.arr 16 (enc fN w.nodes)),(1,.arr 3 R),(2,.arr 2 (enc fR w.log)),(3,.arr 1 (enc fI w.safe)),(o,.box [.ref 0 [],.ref (o+5) [],.ref 2 [],.ref (o+6) [],.sc (.int .i64 w.gen)]),(o+1,.box [.nil 16,.nil 3,.nil 2,.nil 1,.sc (.int .i64 0)]),(o+2,.arr 1 (enc fI wt)),(o+3,Tn r1 q),(o+4,.arr 7 (enc fP ps)),(o+5,.arr 3 (enc fW w.net)),(o+6,.arr 1 (enc fI g.s))]
 else [(0,.arr 16 (enc fN w.nodes)),(1,.arr 3 R),(2,.arr 2 (enc fR w.log)),(o,.box [.ref 0 [],.ref (o+5) [],.ref 2 [],.ref (o+6) [],.sc (.int .i64 w.gen)]),(o+1,.box [.nil 16,.nil 3,.nil 2,.nil 1,.sc (.int .i64 0)]),(o+2,.arr 1 (enc fI wt)),(o+3,Tn r1 q),(o+4,.arr 7 (enc fP ps)),(o+5,.arr 3 (enc fW w.net)),(o+6,.arr 1 (enc fI g.s))]
@[simp] def st186_0 (w:AB) (R:List (List T)) (r1:AG) (q:Nat) (wt:List Int) (ps:List Ci) (g:GvS) (j:Nat):St:={n:=170,m:=4,tm:=[(2,.pb 10000200 0),(4,.pb 10000201 0),(11,.ref 10000202 []),(12,.pb 10000203 0),(13,.ref 10000204 []),(14,.sc (.int .i64 j))],ob:=obV w R r1 q wt ps g 10000200}
theorem Tx (w:AB) (R:List (List T)) (r1:AG) (q:Nat) (wt:List Int) (ps:List Ci) (hq:w.nodes[q]? =some r1) (hwt:wt.length<=1000) (hr:r1.wait.length<=1000000) (hs:w.safe.length<=1000): ∀ (t:St),t.m<=10000200->Ai 10000200 [2,4,11,12,13,14] t=st186_0 w R r1 q wt ps ⟨w.safe,0⟩ 0->Ag G PK md 10000200 [2,4,11,12,13,14] b186_0 t=An (AH G PK md) (Ag G PK md) md b186_0 (st186_0 w R r1 q wt ps (wt.foldl (gvF r1.wait) ⟨w.safe,0⟩) wt.length):=by
 have hf:wt.take wt.length=wt:=List.take_length;obtain⟨hq1,hq2⟩:=Ba hq;have h:=AL (G:=G) (PK:=PK) (md:=md) (o:=10000200) (live:=[2,4,11,12,13,14]) (c:=b186_0) (fun j=>st186_0 w R r1 q wt ps ((wt.take j).foldl (gvF r1.wait) ⟨w.safe,0⟩) j) wt.length (fun j hj=>by
  obtain⟨x,hx⟩:=AE hj;obtain⟨_,hx'⟩:=Ba hx;have hinc:=A2 hj (by omega);have hsh:=Rs r1.wait w.safe (wt.take j) ⟨w.safe,0⟩ ⟨by simp,fun _=>rfl⟩;have hlen:((wt.take j).foldl (gvF r1.wait) ⟨w.safe,0⟩).s.length<=2000:=by
   rw[gv_s];have h1:=GQ ((wt.take j).filter fun n=> !decide (n∈r1.wait)) w.safe;have h2:=List.length_filter_le (fun n=> !decide (n∈r1.wait)) (wt.take j);have h3:(wt.take j).length<=wt.length:=by rw[List.length_take];omega
   simp only at h1 ⊢;omega
  rw[Dp (gvF r1.wait) _ wt hx];generalize (wt.take j).foldl (gvF r1.wait) ⟨w.safe,0⟩=g at*;obtain⟨s,sh⟩:=g;simp only at hsh hlen;have e:=Cg (PK:=PK) r1.wait x (by omega);unfold gvF;by_cases hm:x∈r1.wait
  ·obtain⟨h1,_⟩:=hsh;rcases(show sh=0\/sh=1\/sh=2 by omega)with rfl|rfl|rfl<;>simp[b186_0,md,hj,hx',hq1,hq2,e,hm,hinc]
  ·obtain⟨fin,hfin,e2⟩:=Gy (PK:=PK) (enc fN w.nodes) {w with safe:=s} [x] (by simp) (by simp only;omega);have hs1:EI s [x]=DG s x:=rfl;simp only[hs1,BZ,BK,fI]at e2 hfin;obtain⟨h1,h0⟩:=hsh;rcases(show sh=0\/sh=1\/sh=2 by omega)with rfl|rfl|rfl
   ·have:=h0 rfl;subst this;rcases hfin with ⟨rfl,h⟩|⟨rfl,h⟩<;>simp[b186_0,md,hj,hx',hq1,hq2,e,e2,hm,hinc,h]
   ·rcases hfin with ⟨rfl,h⟩|⟨rfl,h⟩<;>simp[b186_0,md,hj,hx',hq1,hq2,e,e2,hm,hinc,h]
   ·rcases hfin with ⟨rfl,h⟩|⟨rfl,h⟩<;>simp[b186_0,md,hj,hx',hq1,hq2,e,e2,hm,hinc,h]) (by
  have hsh:=(Rs r1.wait w.safe (wt.take wt.length) ⟨w.safe,0⟩ ⟨by simp,fun _=>rfl⟩).1;generalize (wt.take wt.length).foldl (gvF r1.wait) ⟨w.safe,0⟩=g at*;obtain⟨s,sh⟩:=g;simp only at hsh;rcases(show sh=0\/sh=1\/sh=2 by omega)with rfl|rfl|rfl<;>simp[b186_0])
 simp only[hf]at h;exact h
end Go.Proofs.YtbolhfegdocpeaaGreat.Ow
