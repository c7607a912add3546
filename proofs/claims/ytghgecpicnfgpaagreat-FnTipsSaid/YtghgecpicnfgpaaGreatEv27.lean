/- Functions evaluated on the small machine: All Kk of a node cut; falling: what the program makes of a world, Lines' bytes, messages of wires, what deeds name: the program's own way, Falling, tearing, meeting, spoiling: what the program makes of a world. -/
import Derived.Test.YtghgecpicnfgpaaGreatEv26
import Derived.Test.YtghgecpicnfgpaaGreatEv18
import Derived.Test.YtghgecpicnfgpaaGreatEv25
import Derived.Test.YtghgecpicnfgpaaGreatEv16
import Derived.Test.YtghgecpicnfgpaaGreatEv19
namespace Go.Proofs.YtghgecpicnfgpaaGreat.Ow
open Go
set_option linter.unusedVariables false
set_option linter.unusedSimpArgs false
set_option maxHeartbeats 16000000
set_option maxRecDepth 100000
structure T9 (w:AB) (a k:Nat):Prop where
 x:Cr (nd w a) k=nd w a
 y:Cr (nd w k) a=nd w k
 net:w.net.filter (CW a k)=w.net
theorem V7 {w:AB} {a:Nat} (ha:a<w.nodes.length):w.nodes.set a (nd w a)=w.nodes:=by
 obtain⟨x,y1,_,hx',hd,_⟩:=AX w.nodes zN ha;unfold nd;rw[hd,<-hx'];exact List.set_getElem_self y1
theorem W7 {w:AB} {a k:Nat} (h:T9 w a k) (ha:a<w.nodes.length) (hk:k<w.nodes.length):CQ w a k=w:=by
 unfold CQ;rw[h.x,h.y,h.net,V7 ha,V7 hk]
theorem KQ {α:Type} {l:List α} {k:Nat} {d v:α} (hk:k<l.length) (h:l.getD k d=v):l.set k v=l:=by
 have h1:=BP (d:=d) (List.getElem?_eq_getElem hk);rw[h]at h1;rw[h1];exact List.set_getElem_self hk
theorem Sj {n:AE} (h:NOk n) {k:Nat} (hk:k<3) (hc:n.conn.getD k false=false):Cr n k=n:=by
 have h2:n.copies.getD k false=false:=by
  cases hcp:n.copies.getD k false
  ·rfl
  ·have h3:=(Hw h hk).1 hcp;rw[hc]at h3;cases h3
 have h1:=Am h.lk hk;unfold lk lk2 at h1;simp only[Bool.and_eq_true,Bool.not_eq_true',Bool.and_eq_false_iff,Bool.not_eq_false',decide_eq_false_iff_not]at h1;have h4:n.sync.getD k []=[]:=by
  rcases h1.2.1.1 with h3|h3
  ·exact List.eq_nil_of_length_eq_zero (by omega)
  ·rw[h2]at h3;cases h3
 unfold Cr;rw[KQ (d:=false) (by have:=h.conn;omega) hc,KQ (d:=false) (by have:=h.copies;omega) h2,KQ (d:=[]) (by have:=h.sync;omega) h4]
theorem KN {w:AB} (h:Ap w=true) {a k:Nat} (ha:a<3) (hk:k<3) (hc:EM w a k=false):T9 w a k:=by
 have hN:=F7 h;unfold Ap Kk at h;simp only[Bool.and_eq_true]at h;have hs0:=Am h.2.1.1 ha;have hs0:Ac (F8 w a) 3=true:=hs0;have hsy:=Am hs0 hk;unfold F8 at hsy;have hc1:cn w a k=false:=by
  unfold EM at hc;exact hc
 rw[hc1,beq_iff_eq]at hsy;refine⟨Sj (hN.ok a ha) hk hc1,Sj (hN.ok k hk) ha hsy.symm,List.filter_eq_self.2 λx hx=> ?_⟩;obtain⟨j,hj,rfl⟩:=List.getElem_of_mem hx;have hw:=Am h.2.1.2 hj;unfold Ft at hw;rw[BP (List.getElem?_eq_getElem hj)]at hw;simp only[Bool.and_eq_true]at hw;have hw:=hw.1.2;unfold CW;generalize w.net[j]=x at*
 cases hd:(decide (x.src=a)&&decide (x.dst=k)||decide (x.src=k)&&decide (x.dst=a))
 ·rfl
 ·exfalso;simp only[Bool.or_eq_true,Bool.and_eq_true,decide_eq_true_iff]at hd;rcases hd with hd|hd
  ·rw[hd.1,hd.2]at hw;simp only[Int.toNat_natCast]at hw;rw[hc1]at hw;cases hw
  ·rw[hd.1,hd.2]at hw;simp only[Int.toNat_natCast]at hw;rw[<-hsy]at hw;cases hw
theorem Vm (n:AE) {j k:Nat} (h:j≠k):Cr (Cr n j) k=Cr (Cr n k) j:=by
 unfold Cr;simp only[List.set_comm _ _ h]
theorem nd_cut2 {w:AB} {a b k:Nat} (h:w.nodes.length=3) (hk:k<3) (hka:k≠a) (hkb:k≠b):nd (CQ w a b) k=nd w k:=by
 unfold nd CQ;simp only[List.getD_eq_getElem?_getD];rw[List.getElem?_set_ne (Ne.symm hkb),List.getElem?_set_ne (Ne.symm hka)]
theorem VR {w:AB} {a j k:Nat} (h:T9 w a k) (h3:w.nodes.length=3) (ha:a<3) (hk:k<3) (hja:a≠j) (hka:k≠a) (hkj:k≠j):T9 (CQ w a j) a k:=by
 refine⟨?_,?_,?_⟩
 ·rw[Nu h3 ha hja,Vm _ (Ne.symm hkj),h.x]
 ·rw[nd_cut2 h3 hk hka hkj,h.y]
 ·unfold CQ;simp only[List.filter_filter];rw[show (λx=>CW a k x&&CW a j x)=(λx=>CW a j x&&CW a k x)from funext λx=>Bool.and_comm _ _,<-List.filter_filter,h.net]
theorem cn_cut2 {w:AB} {a j k:Nat} (h3:w.nodes.length=3) (ha:a<3) (hja:a≠j) (hkj:k≠j):EM (CQ w a j) a k=EM w a k:=by
 unfold EM;simp only[Int.toNat_natCast];rw[Nu h3 ha hja];unfold Cr;simp only[List.getD_eq_getElem?_getD,List.getElem?_set];rw[if_neg (Ne.symm hkj)]
def caF (a:Nat) (w:AB) (k:Nat):AB:=if k=a then w else CQ w a k
def Or (w:AB) (a:Nat):AB:=(List.range 3).foldl (caF a) w
theorem QN {w:AB} {a:Nat} (ha:a<3) (h:DnI a ⟨w,0,[]⟩) (hi: ∀k:Nat,k<3->EM w a k=false->T9 w a k): ∀j,j<=3->((List.range j).foldl (dnF a) ⟨w,0,[]⟩).w=(List.range j).foldl (caF a) w/\ ∀k:Nat,k<3->j<=k->k≠a->EM ((List.range j).foldl (caF a) w) a k=false->T9 ((List.range j).foldl (caF a) w) a k
 |0,_=>⟨rfl,λk hk _ _ hc=>hi k hk hc⟩
 |j+1,hj=>by
  obtain⟨h1,h2⟩:=QN ha h hi j (by omega);have hD:=LJ ha h j (by omega);rw[CM,CM];generalize (List.range j).foldl (dnF a) ⟨w,0,[]⟩=s at*;generalize (List.range j).foldl (caF a) w=v at*;obtain⟨u,sh,rows⟩:=s;obtain⟨hW,_,hself⟩:=hD;simp only at h1 hW hself;subst h1;have h3:=hW.n3;unfold caF dnF;by_cases hja:j=a
  ·subst hja;simp only[hself,Bool.false_eq_true,if_false,if_true];exact⟨by trivial,λk hk hjk hka hc=>h2 k hk (by omega) hka hc⟩
  ·simp only[if_neg hja]
   cases hc:EM u a j
   ·simp only[Bool.false_eq_true,if_false];have hid:=W7 (h2 j (by omega) (Nat.le_refl _) hja hc) (by omega) (by omega);rw[hid];exact⟨by trivial,λk hk hjk hka hc=>h2 k hk (by omega) hka hc⟩
   ·simp only[if_true];refine⟨by trivial,λk hk hjk hka hc=> ?_⟩;rw[cn_cut2 h3 ha (Ne.symm hja) (by omega)]at hc;exact VR (h2 k hk (by omega) hka hc) h3 ha hk (Ne.symm hja) hka (by omega)
@[simp] def obP (w:AB) (sh o:Nat):List (Nat×Obj):=
 if sh=0 then [(0,.box [.ref 1 [],.ref 2 [],.ref 3 [],.ref 4 [],.sc (I6 w.gen)]),(1,.arr 16 (enc fN w.nodes)),(2,.arr 3 (enc fW w.net)),(3,.arr 2 (enc fR w.log)),(4,.arr 1 (enc fI w.safe))]
 else [(0,.box [.ref o [],.ref (o+1) [],.ref (o+2) [],.ref (o+3) [],.sc (I6 w.gen)]),(o,.arr 16 (enc fN w.nodes)),(o+1,.arr 3 (enc fW w.net)),(o+2,.arr 2 (enc fR w.log)),(o+3,.arr 1 (enc fI w.safe))]
@[simp] def st153 (w:AB) (a sh j:Nat):St:={n:=16,m:=5,tm:=[(0,.pb 0 0),(1,.sc (I6 a)),(5,.sc (I6 j))],ob:=obP w sh 10000000}
def caS (a:Nat) (s:AB×Nat) (k:Nat):AB×Nat:=(caF a s.1 k,if k=a then s.2 else 1)
theorem Xn (a:Nat) (s:AB×Nat): ∀j,((List.range j).foldl (caS a) s).1=(List.range j).foldl (caF a) s.1
 |0=>rfl
 |j+1=>by rw[CM,CM,<-Xn a s j];rfl
theorem So {w:AB} {a:Nat} (ha:a<3) (h:WI w): ∀j,j<=3->WI ((List.range j).foldl (caS a) (w,0)).1/\((List.range j).foldl (caS a) (w,0)).2<2
 |0,_=>⟨h,by simp⟩
 |j+1,hj=>by
  obtain⟨h1,h2⟩:=So ha h j (by omega);rw[CM];unfold caS caF;by_cases hja:j=a
  ·simp only[if_pos hja];exact⟨h1,h2⟩
  ·simp only[if_neg hja];exact⟨LL h1 ha (by omega) (Ne.symm hja),by omega⟩
theorem Vh [PKI] (w:AB) (a:Nat) (ha:a<3) (hw:WI w):sG 153 [.pm (AA (fWo w)),.v (.sc (I6 a))]=some ⟨[],[],[AA (fWo (Or w a))]⟩:=by
 refine sK p153 ?_;have hlp:= @lok _ 10000000 [0,1,5] b153_0 (λj=>st153 ((List.range j).foldl (caS a) (w,0)).1 a ((List.range j).foldl (caS a) (w,0)).2 j) 3 (λj hj=>by
  obtain⟨i1,i2⟩:=So ha hw j (by omega);simp only[CM];generalize (List.range j).foldl (caS a) (w,0)=s at*;obtain⟨v,sh⟩:=s;simp only at i1 i2;unfold caS caF;have hj3:(j:Int)<3:=by omega
  have hinc:=Ar hj (by omega);by_cases hja:j=a
  ·have hb:((j:Int) != (a:Int))=false:=by simp[hja]
   simp only[if_pos hja];rcases(by omega:sh=0\/sh=1)with rfl|rfl<;>simp[b153_0,  hj3,hb,hinc]
  ·have hb:((j:Int) != (a:Int))=true:=by simp;omega
   simp only[if_neg hja];have e:=RL v a j i1.n3 ha hj (Ne.symm hja) (by have:=i1.net;omega) i1.L.c3;simp only[AA,AJ,fWo]at e;generalize CQ v a j=cw at*;rcases(by omega:sh=0\/sh=1)with rfl|rfl<;>simp[b153_0,  hj3,hb,hinc,e]) (by
  obtain⟨i1,i2⟩:=So ha hw 3 (by omega);generalize (List.range 3).foldl (caS a) (w,0)=s at*;obtain⟨v,sh⟩:=s;simp only at i2;rcases(by omega:sh=0\/sh=1)with rfl|rfl<;>simp[b153_0])
 have hc:Or w a=((List.range 3).foldl (caS a) (w,0)).1:=(Xn a (w,0) 3).symm;rw[hc];obtain⟨i1,i2⟩:=So ha hw 3 (by omega);obtain⟨S,hS⟩: ∃S,S=(List.range 3).foldl (caS a) (w,0):=⟨_,rfl⟩;rw[<-hS]at i2 ⊢;simp only[<-hS]at hlp;simp[p153];rw[hlp]
 ·obtain⟨v,sh⟩:=S;simp only at i2;rcases(by omega:sh=0\/sh=1)with rfl|rfl<;>simp[b153_0]
 ·simp
 ·simp
theorem Q7 [PKI] (a b:Int) (m:A2) (hm:m.gens.length<=1048576):sG 191 [.v (.sc (I6 a)),.v (.sc (I6 b)),.a (AD (fMs m))]=some ⟨[.v (.own 1 (enc fU (Pz a b m)))],[],[]⟩:=by
 refine sK p191 ?_;have e1:=LB [m] (by simp) (λx hx=>by rw[List.mem_singleton.1 hx];exact hm);have e2:=Ef m hm;simp only[AD,lent,fMs,BN,BA]at e1 e2;unfold Pz J4;rcases tfb a 2 with ⟨c1,d1⟩|⟨c1,d1⟩<;>rcases tfb b 2 with ⟨c2,d2⟩|⟨c2,d2⟩<;>simp[p191,  e1,e2,c1,c2,d1,d2]
def VH (x:BD):A2:=if J4 x.src x.dst then(Fx x).getD zMs else((Da x.bytes 0).map Prod.fst).getD zMs
theorem msgI_of {x:BD} {m:A2} (h:Fx x=some m):VH x=m:=by
 unfold VH;split
 ·rw[h];rfl
 ·rename_i hf;unfold Fx at h;rw[if_neg hf]at h
  cases hm:Da x.bytes 0 with
  |none=>rw[hm]at h;cases h
  |some q=>
   obtain⟨m',n⟩:=q;rw[hm]at h;simp only at h;split at h
   ·cases h;rfl
   ·cases h
theorem Tg [PKI] (x:BD) (hb:byt x.bytes) (hb1:x.bytes.length<=1000000):sG 158 [.a (AD (fW x))]=some ⟨[.a (AA (fMs (VH x))),.v (.sc (.bool (Fx x).isSome))],[],[]⟩:=by
 refine sK p158 ?_;have e2:=OZ x.bytes hb;have e3:=GH x.bytes 0 hb (Nat.zero_le _) hb1;unfold VH Fx J4;by_cases hf:x.src=2\/x.dst=2
 ·have hff:(decide (x.src=2)||decide (x.dst=2))=true:=by simpa using hf
  rw[hff];simp only[if_true];have hfx:(x.src=2)=True\/(x.src=2)=False/\(x.dst=2)=True:=by
   by_cases h:x.src=2
   ·exact .inl (eq_true h)
   ·exact .inr ⟨eq_false h,eq_true (hf.resolve_left h)⟩
  cases hu:Ez x.bytes with
  |none=>
   rw[hu]at e2;simp only[Option.getD_none,Option.isSome_none,BA]at e2;rcases hfx with h|⟨h,h'⟩
   ·simp[p158,  h,e2,zMs]
   ·simp[p158,  h,h',e2,zMs]
  |some l=>
   rw[hu]at e2;simp only[Option.getD_some,Option.isSome_some]at e2;rcases l with _|⟨m,_|⟨m2,l⟩⟩
   ·simp at e2;rcases hfx with h|⟨h,h'⟩
    ·simp[p158,  h,e2,zMs]
    ·simp[p158,  h,h',e2,zMs]
   ·simp at e2;rcases hfx with h|⟨h,h'⟩
    ·simp[p158,  h,e2,zMs]
    ·simp[p158,  h,h',e2,zMs]
   ·have h1: ¬ ((l.length:Int)+1+1=1):=by omega
    have h1b:((l.length:Int)+1+1 != 1)=true:=by simp;omega
    simp at e2;rcases hfx with h|⟨h,h'⟩
    ·simp[p158,  h,e2,h1,h1b,zMs]
    ·simp[p158,  h,h',e2,h1,h1b,zMs]
 ·have hff:(decide (x.src=2)||decide (x.dst=2))=false:=by simpa using hf
  rw[hff];simp only[Bool.false_eq_true,if_false];have h1: ¬x.src=2:=λh=>hf (.inl h)
  have h2: ¬x.dst=2:=λh=>hf (.inr h)
  cases hm:Da x.bytes 0 with
  |none=>
   rw[hm]at e3;simp only[Option.map_none,Option.getD_none,Option.isSome_none,AA,AJ,fMs,zMs]at e3;simp at e3;simp[p158,  h1,h2,e3,zMs]
  |some q=>
   obtain⟨m,n⟩:=q;rw[hm]at e3;simp only[Option.map_some,Option.getD_some,Option.isSome_some,AA,AJ,fMs]at e3;simp at e3;by_cases hn:n=x.bytes.length
   ·have hn':(n:Int)=x.bytes.length:=by omega
    have hnb:((n:Int)==(x.bytes.length:Int))=true:=beq_iff_eq.2 hn';simp[p158,  h1,h2,e3,eq_true hn,eq_true hn',hnb,zMs]
   ·have hn': ¬ (n:Int)=x.bytes.length:=by omega
    have hnb:((n:Int)==(x.bytes.length:Int))=false:=beq_eq_false_iff_ne.2 hn';simp[p158,  h1,h2,e3,hn,hn',hnb,zMs]
def Jp (w:AB) (d:CD):Bool:=
 if d.kind=7\/d.kind=8 then inB d.a 0 ((w.net.length:Int) - 1)
 else if d.kind=2\/d.kind=3\/d.kind=9 then inB d.a 0 2&&inB d.b 0 2&&decide (d.a≠d.b)
 else if d.kind=1 then inB d.a 0 2&&inB d.b 0 7
 else inB d.a 0 2
theorem XR [PKI] (w:AB) (d:CD) (hw:w.net.length<=1048576):sG 62 [.a (AD (fWo w)),.a (AD (fD d))]=some ⟨[.v (.sc (.bool (Jp w d)))],[],[]⟩:=by
 refine sK p62 ?_;obtain⟨k,a,b⟩:=d;have w1:IntKind.wrap .i64 ((w.net.length:Int) - 1)=(w.net.length:Int) - 1:=AC (by omega) (by omega);have e1:=BF a 0 ((w.net.length:Int) - 1);have e2:=DU a;have e3:=DU b;have e4:=Cd b;unfold Jp;simp only;by_cases h7:k=7\/k=8
 ·rw[if_pos h7];rcases h7 with rfl|rfl<;>simp[p62,  w1,e1]
 rw[if_neg h7];simp only[not_or]at h7;by_cases h2:k=2\/k=3\/k=9
 ·rw[if_pos h2]
  cases h3:inB a 0 2
  ·rcases h2 with rfl|rfl|rfl<;>simp[p62,  e2,h3]
  cases h4:inB b 0 2
  ·rcases h2 with rfl|rfl|rfl<;>simp[p62,  e2,e3,h3,h4]
  by_cases h5:a=b
  ·have h5b:(a != b)=false:=by simp[h5]
   rcases h2 with rfl|rfl|rfl<;>simp[p62,  e2,e3,h3,h4,h5b,eq_true h5]
  ·have h5b:(a != b)=true:=by simp[h5]
   rcases h2 with rfl|rfl|rfl<;>simp[p62,  e2,e3,h3,h4,h5b,h5]
 rw[if_neg h2];simp only[not_or]at h2;by_cases h1:k=1
 ·subst h1
  cases h3:inB a 0 2
  ·simp[p62,  e2,h3]
  ·simp[p62,  e2,e4,h3]
 ·simp[p62,  e2,h1,h2.1,h2.2.1,h2.2.2,h7.1,h7.2]
theorem cutA_WI {w:AB} {a:Nat} (h:WI w) (ha:a<3):WI (Or w a):=by
 have h1:=(So ha h 3 (by omega)).1;rw[Xn]at h1;exact h1
def Me (w:AB) (a:Nat):AB×Int:=if(nd w a).up then({Or w a with nodes:=(Or w a).nodes.set a (H6 (nd (Or w a) a))},0)else(w,3)
theorem Uk [PKI] (hK:Cm PK) (w:AB) (a:Nat) (ha:a<3) (hw:WI w):sG 104 [.pm (AA (fWo w)),.v (.sc (I6 a))]=some ⟨[.v (.sc (I6 (Me w a).2))],[],[AA (fWo (Me w a).1)]⟩:=by
 refine sK p104 ?_;have hn3:=hw.n3;obtain⟨x,y1,_,hx',hxd,hxm⟩:=AX w.nodes zN (j:=a) (by omega);have hxa:nd w a=x:=hxd;have e1:=Vh w a ha hw;have hc:=cutA_WI hw ha;unfold Me;rw[hxa]
 cases hu:x.up
 ·simp (maxSteps:=9999999) [p104,  y1,hx',hu]
 ·generalize Or w a=v at*;obtain⟨y,y2,_,hy',hyd,hym⟩:=AX v.nodes zN (j:=a) (by have:=hc.n3;omega);have hya:nd v a=y:=hyd;rw[hya];have e2:=RF hK y (hc.node y hym).b.nS;simp only[AD,lent,fN,fWo,AA,AJ]at e1 e2;generalize H6 y=q at*;simp (maxSteps:=9999999) [p104,  y1,hx',hu,e1,e2,y2,hy']
def Rm (w:AB) (a:Nat) (b:Int):AB×Int:=if !(nd w a).up|| !inB b 0 155 then(w,3)else Me (Dx w a b) a
theorem Rl {w:AB} {a:Nat} {b:Int} (h:WI w) (ha:a<3) (hb:b<=155):WI (Dx w a b):=Qc (k:=a) (n:=Hc (nd w a) b) h ha (NW (h.nd ha) hb) (h.id a ha)
theorem ev_tear [PKI] (hK:Cm PK) (w:AB) (a:Nat) (b:Int) (ha:a<3) (hw:WI w):sG 106 [.pm (AA (fWo w)),.v (.sc (I6 a)),.v (.sc (I6 b))]=some ⟨[.v (.sc (I6 (Rm w a b).2))],[],[AA (fWo (Rm w a b).1)]⟩:=by
 refine sK p106 ?_;have hn3:=hw.n3;obtain⟨x,y1,_,hx',hxd,hxm⟩:=AX w.nodes zN (j:=a) (by omega);have hxa:nd w a=x:=hxd;have hc:=hw.node x hxm;have e1:=BF b 0 155;unfold Rm;rw[hxa]
 cases hu:x.up
 ·simp (maxSteps:=9999999) [p106,  y1,hx',hu]
 cases hb:inB b 0 155
 ·rw[hb]at e1;simp (maxSteps:=9999999) [p106,  y1,hx',hu,e1]
 rw[hb]at e1;have rb:=AP.1 hb;have e2:=Bp hK x.mt hc.b.mt;have e3:=LA hK.cu x.sl {x.mt with fine:= !x.mt.fine} b b.toNat (by omega) hc.b.sl hc.b.mt;have e4:=Uk hK (Dx w a b) a ha (Rl hw ha rb.2);simp only[Bool.not_true,Bool.or_self,Bool.false_eq_true,if_false];generalize Me (Dx w a b) a=v at*;unfold Dx Hc at e4;rw[hxa]at e4;have hxe:({x with sl:=I2 x.sl {x.mt with fine:= !x.mt.fine} b.toNat}:AE)=⟨x.id,true,x.prime,x.image,⟨x.mt.gens,x.mt.bits,x.mt.fine,x.mt.old,x.mt.held,x.mt.last⟩,⟨(I2 x.sl {x.mt with fine:= !x.mt.fine} b.toNat).a,(I2 x.sl {x.mt with fine:= !x.mt.fine} b.toNat).b⟩,x.conn,x.sync,x.copies,x.wait⟩:=by rw[<-hu]
 rw[hxe]at e4;simp only[AD,lent,fSl,fM,fWo,AA,AJ]at e2 e3 e4;generalize I2 x.sl {x.mt with fine:= !x.mt.fine} b.toNat=ts at*;simp (maxSteps:=9999999) [p106,  y1,hx',hu,e1,e2,e3,e4]
theorem ev_join [PKI] (hK:Cm PK) (w:AB) (a b:Nat) (ha:a<3) (hb:b<3) (hab:a≠b) (hw:WI w):sG 102 [.pm (AA (fWo w)),.v (.sc (I6 a)),.v (.sc (I6 b))]=some ⟨[.v (.sc (I6 (H0 w a b).2))],[],[AA (fWo (H0 w a b).1)]⟩:=by
 refine sK p102 ?_;have hn3:=hw.n3;obtain⟨x,y1,_,hx',hxd,hxm⟩:=AX w.nodes zN (j:=a) (by omega);obtain⟨y,y2,_,hy',hyd,hym⟩:=AX w.nodes zN (j:=b) (by omega);have hxa:nd w a=x:=hxd;have hyb:nd w b=y:=hyd;have e1:=IE x y (hw.node x hxm).b.nS (hw.node y hym).b.nS;have e2:=LE hK x y (hw.node x hxm).b (hw.node y hym).b;have e3:=LE hK y x (hw.node y hym).b (hw.node x hxm).b;simp only[AD,lent,fN,AA,AJ]at e1 e2 e3;unfold H0 Ls;rw[hxa,hyb];generalize EK x y=r at*;generalize EK y x=t at*;generalize EY x y=s at*;obtain⟨r1,r2,r3⟩:=r;obtain⟨t1,t2,t3⟩:=t;have hba:b≠a:=hab.symm;by_cases h0:s=0
 ·simp[p102,  y1,y2,hx',hy',e1,eq_true h0]
 by_cases h2:s=2
 ·cases t3
  ·simp (maxSteps:=9999999) [p102,  y1,y2,hx',hy',e1,e3,h0,eq_true h2,hab,hba,List.getElem_set]
  ·simp (maxSteps:=9999999) [p102,  y1,y2,hx',hy',e1,e3,h0,eq_true h2,hab,hba,List.getElem_set]
 ·cases r3
  ·simp (maxSteps:=9999999) [p102,  y1,y2,hx',hy',e1,e2,h0,h2,hab,hba,List.getElem_set]
  ·simp (maxSteps:=9999999) [p102,  y1,y2,hx',hy',e1,e2,h0,h2,hab,hba,List.getElem_set]
def LY (w:AB) (k:Nat):AB×Int:=if(w.net.getD k zW).bytes.length=0 then(w,3)else({w with net:=w.net.set k {(w.net.getD k zW)with bytes:=(w.net.getD k zW).bytes.dropLast}},0)
theorem XN [PKI] (w:AB) (k:Nat) (hk:k<w.net.length) (hb:(w.net.getD k zW).bytes.length<=1048576):sG 108 [.pm (AA (fWo w)),.v (.sc (I6 k))]=some ⟨[.v (.sc (I6 (LY w k).2))],[],[AA (fWo (LY w k).1)]⟩:=by
 refine sK p108 ?_;obtain⟨x,y1,hx,hx',hxd,hxm⟩:=AX w.net zW (j:=k) hk;rw[hxd]at hb;unfold LY;rw[hxd];by_cases h0:x.bytes.length=0
 ·have h0':x.bytes=[]:=List.eq_nil_of_length_eq_zero h0;simp[p108,  y1,hx',h0']
 ·obtain⟨m,hm⟩: ∃m,x.bytes.length=m+1:=⟨x.bytes.length - 1,by omega⟩;have w1:IntKind.wrap .i64 ((x.bytes.length:Int) - 1)=(m:Int):=by
   have h9:IntKind.wrap .i64 ((x.bytes.length:Int) - 1)=(x.bytes.length:Int) - 1:=AC (by omega) (by omega);rw[h9,hm];omega
  have hmi: ¬ (x.bytes.length:Int)=0:=by omega
  have hmb:((x.bytes.length:Int)==0)=false:=beq_eq_false_iff_ne.2 hmi;have hne:x.bytes≠[]:=λh=>by rw[h]at h0;exact h0 rfl
  have hle:m<=x.bytes.length:=by omega
  have hd:(enc fU x.bytes).take m=enc fU x.bytes.dropLast:=by rw[List.dropLast_eq_take,Ax,show x.bytes.length - 1=m by omega]
  have s1:=A3 fW w.net k {x with bytes:=x.bytes.dropLast};simp only[fW]at s1;simp (maxSteps:=9999999) [p108,  y1,hx',h0,hmi,hmb,hne,w1,hle,hd,s1]
end Go.Proofs.YtghgecpicnfgpaaGreat.Ow
