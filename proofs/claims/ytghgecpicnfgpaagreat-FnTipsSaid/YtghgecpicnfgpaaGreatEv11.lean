/- Functions evaluated on the small machine: Messages that are right, and to whom they go: what the reference says, Two that meet: what the reference makes of them, What is heard: what the reference makes of a node. -/
import Derived.Test.YtghgecpicnfgpaaGreatEv10
namespace Go.Proofs.YtghgecpicnfgpaaGreat.Ow
open Go
set_option linter.unusedVariables false
set_option linter.unusedSimpArgs false
set_option maxHeartbeats 8000000
def C3 (m:A2):Bool:=
 if m.kind=5 then Dj m.gens&&inB m.val 0 200&&decide (m.cell=0)&&decide (m.who=0)
 else if m.kind=1\/m.kind=2\/m.kind=3\/m.kind=4 then decide (m.gens.length=0)&&inB m.cell 0 7&&inB m.val (1 - bit (decide (m.kind=4)||decide (m.kind=2)) 1) 200&&(decide (m.kind=3)&&inB m.who 0 2||decide (m.who=0))
 else false
theorem JH [PKI] (m:A2) (hm:m.gens.length<=1048576):sG 136 [.a (AD (fMs m))]=some ⟨[.v (.sc (.bool (C3 m)))],[],[]⟩:=by
 refine sK p136 ?_;obtain⟨k,c,v,w,g⟩:=m;have e1:=Fe g hm;have e2:=Ao v 0 200;have e3:=Ao c 0 7;have e4:=Ao v 1 200;have e5:=Ao w 0 2;have b1:=Dm true;have b0:=Dm false;have t1:bit true 1=1:=rfl;have t0:bit false 1=0:=rfl;have w0:IntKind.wrap .i64 0=0:=rfl;rw[t1]at b1;rw[t0]at b0;unfold C3;simp only;by_cases h5:k=5
 ·subst h5
  cases h1:Dj g
  ·simp[p136,  e1,h1]
  cases h2:inB v 0 200
  ·simp[p136,  e1,e2,h1,h2]
  by_cases h3:c=0<;>by_cases h4:w=0<;>simp[p136,  e1,e2,h1,h2,h3,h4]
 by_cases h:k=1\/k=2\/k=3\/k=4
 ·by_cases hg:g.length=0
  ·cases h3:inB c 0 7
   ·rcases h with rfl|rfl|rfl|rfl<;>simp[p136,  hg,e3,h3]
   rcases h with rfl|rfl|rfl|rfl
   ·cases h6:inB v 1 200
    ·simp[p136,  hg,e3,h3,b0,b1,t0,t1,w0,C6,e4,h6]
    ·by_cases h4:w=0<;>simp[p136,  hg,e3,h3,b0,b1,t0,t1,w0,C6,e4,h6,h4]
   ·cases h6:inB v 0 200
    ·simp[p136,  hg,e3,h3,b0,b1,t0,t1,w0,C6,e2,h6]
    ·by_cases h4:w=0<;>simp[p136,  hg,e3,h3,b0,b1,t0,t1,w0,C6,e2,h6,h4]
   ·cases h6:inB v 1 200
    ·simp[p136,  hg,e3,h3,b0,b1,t0,t1,w0,C6,e4,h6]
    ·cases h7:inB w 0 2
     ·have h4:w≠0:=λh=>by subst h;cases h7
      simp[p136,  hg,e3,h3,b0,b1,t0,t1,w0,C6,e4,e5,h6,h7,h4]
     ·simp[p136,  hg,e3,h3,b0,b1,t0,t1,w0,C6,e4,e5,h6,h7]
   ·cases h6:inB v 0 200
    ·simp[p136,  hg,e3,h3,b0,b1,t0,t1,w0,C6,e2,h6]
    ·by_cases h4:w=0<;>simp[p136,  hg,e3,h3,b0,b1,t0,t1,w0,C6,e2,h6,h4]
  ·rcases h with rfl|rfl|rfl|rfl<;>simp[p136,  hg]
 ·simp only[not_or]at h;simp[p136,  h5,h.1,h.2.1,h.2.2.1,h.2.2.2]
theorem G5 {m:A2} (h:C3 m=true):m.gens.length<=12:=by
 unfold C3 at h;split at h
 ·simp only[Bool.and_eq_true]at h;have:=h.1.1.1;unfold Dj at this;simp only[Bool.and_eq_true,decide_eq_true_iff]at this;omega
 ·split at h
  ·simp only[Bool.and_eq_true,decide_eq_true_iff]at h;have:=h.1.1.1;omega
  ·cases h
def to1 (n:AE) (but:Int) (m:A2) (k:Nat):List Bz:=if n.conn.getD k false=true/\(k:Int)≠but then [⟨n.id,k,m⟩]else []
def tos (n:AE) (but:Int) (m:A2):List Bz:=(List.range 3).flatMap (to1 n but m)
theorem KP (n:AE) (but:Int) (m:A2): ∀j,((List.range j).flatMap (to1 n but m)).length<=j
 |0=>by simp
 |j+1=>by
  have:=KP n but m j;rw[List.range_succ,List.flatMap_append,List.length_append];simp only[List.flatMap_cons,List.flatMap_nil,List.append_nil];generalize (List.range j).flatMap (to1 n but m)=o at*;unfold to1;split<;>simp<;>omega
theorem Rk (n:AE) (but:Int) (m:A2) (j:Nat):(List.range (j+1)).flatMap (to1 n but m)=(List.range j).flatMap (to1 n but m)++to1 n but m j:=by
 rw[List.range_succ,List.flatMap_append];simp
@[simp] def TM (m:A2):List L:=[.sc (I6 m.kind),.sc (I6 m.cell),.sc (I6 m.val),.sc (I6 m.who),.nil 1]
@[simp] def st254 (n:AE) (but:Int) (m:A2) (out:List Bz) (j:Nat):St:={n:=33,m:=0,tm:=[(1,.sc (I6 but)),(3,.pb 10000000 0),(5,.pb 10000001 0),(7,.ref 10000002 []),(8,.sc (I6 j))],ob:=[(10000000,PJ n),(10000001,.box [.sc (I6 m.kind),.sc (I6 m.cell),.sc (I6 m.val),.sc (I6 m.who),.nil 1]),(10000002,.arr 7 (enc fP out))]}
theorem Sc [PKI] (n:AE) (but:Int) (m:A2) (hn:n.conn.length=3) (hm:m.gens=[]):sG 254 [.a (AD (fN n)),.v (.sc (I6 but)),.a (TM m)]=some ⟨[.v (.own 7 (enc fP (tos n but m)))],[],[]⟩:=by
 refine sK p254 ?_;have hs:= @lok _ 10000000 [1,3,5,7,8] b254_0 (λj=>st254 n but m ((List.range j).flatMap (to1 n but m)) j) 3 (λj hj=>by
  obtain⟨x,y1,hx,hx',hxd⟩:=Aj n.conn (j:=j) (by omega);have hinc:=Ar hj (by omega);have hl:=KP n but m j;simp only[Rk];generalize (List.range j).flatMap (to1 n but m)=out at hl ⊢;have hj3:(j:Int)<3:=by omega
  have g1:(out.length+1)*72<=35184372088832:=by omega
  unfold to1;rw[hxd]
  cases x
  ·simp[b254_0,  hj3,hinc,y1,hx']
  by_cases hb:(j:Int)=but
  ·simp[b254_0,  hj3,hinc,y1,hx',eq_true hb]
  ·simp[b254_0,  hj3,hinc,y1,hx',hb,g1,hm];simp[enc,hm]) (by simp[b254_0])
 unfold tos;simp[p254];rw[hs]
 ·simp[b254_0]
 ·simp
 ·simp
def HO (s t:AE):AE:=A7 {s with conn:=s.conn.set t.id.toNat true,copies:=s.copies.set t.id.toNat true,sync:=s.sync.set t.id.toNat (Bj s t)} {s.mt with bits:=s.mt.bits.set t.id.toNat (Bj s t)}
def Kl (s t:AE):AE:=A7 {t with conn:=t.conn.set s.id.toNat true} {t.mt with fine:=t.mt.fine&&decide ((Bj s t).length=0)}
def EK (s t:AE):AE×AE×Bool:=if EY s t=1&&AL (HO s t)&&AL (Kl s t)then(HO s t,Kl s t,true)else(s,t,false)
theorem uni_len (a b:LI):(uni a b).length<=a.length+b.length:=by
 unfold uni;have:=Ga (a++b) [];simp only[List.length_append,List.length_nil]at this;omega
theorem J5 (x y:AE):(Bj x y).length<=16:=by
 unfold Bj;split
 ·rename_i h;rw[Bool.and_eq_true]at h;have nx:=Ai h.1;have ny:=Ai h.2;obtain⟨i,i3,hi⟩:=nx.nat;obtain⟨j,j3,hj⟩:=ny.nat;obtain⟨a,y1,ha,ha',had,ham⟩:=Ah x.mt.bits (j:=j) (by have:=nx.bits3;omega);obtain⟨b,y2,hb,hb',hbd,hbm⟩:=Ah y.mt.bits (j:=i) (by have:=ny.bits3;omega);have l1:=Ec (nx.bit8 a ham);have l2:=Ec (ny.bit8 b hbm);have:=uni_len a b;rw[hi,hj];simp only[Int.toNat_natCast,had,hbd];omega
 ·simp
theorem Pn {x y:AE} (h:EY x y≠0):AL x=true/\AL y=true/\x.id≠y.id/\x.up=true/\y.up=true/\x.conn.getD y.id.toNat false=false/\y.conn.getD x.id.toNat false=false:=by
 unfold EY at h;split at h
 ·exact absurd rfl h
 ·rename_i h1;simp only[Bool.or_eq_true,Bool.not_eq_true,not_or,Bool.not_eq_true',decide_eq_true_iff]at h1;simp only[ne_eq,Bool.not_eq_false]at h1;exact⟨h1.1.1.1.1.1.1,h1.1.1.1.1.1.2,h1.1.1.1.1.2,h1.1.1.1.2,h1.1.1.2,h1.1.2,h1.2⟩
theorem N4 {s t:AE} (h:nB s):nB (HO s t):=by
 have hl:=J5 s t;refine⟨h.image,h.gens,by unfold HO A7;simp only[List.length_set];exact h.bits,λx hx=> ?_,CZ h.sl _,by unfold HO A7;simp only[List.length_set];exact h.conn,by unfold HO A7;simp only[List.length_set];exact h.sync,λx hx=> ?_,by unfold HO A7;simp only[List.length_set];exact h.copies,h.wait⟩
 ·rcases List.mem_or_eq_of_mem_set hx with hx|rfl
  ·exact h.bit x hx
  ·omega
 ·rcases List.mem_or_eq_of_mem_set hx with hx|rfl
  ·exact h.syn x hx
  ·omega
theorem N3 {s t:AE} (h:nB t):nB (Kl s t):=by
 refine⟨h.image,h.gens,h.bits,h.bit,CZ h.sl _,by unfold Kl A7;simp only[List.length_set];exact h.conn,h.sync,h.syn,h.copies,h.wait⟩
theorem Kw [PKI] (s t:AE) (hs:nB s) (ht:nB t):sG 256 [.a (AD (fN s)),.a (AD (fN t))]=some ⟨[.a (AA (fN (EK s t).1)),.a (AA (fN (EK s t).2.1)),.v (.sc (.bool (EK s t).2.2))],[],[]⟩:=by
 refine sK p256 ?_;have e0:=H8 s t hs.nS ht.nS;have e1:=B5 s hs.nS;have e2:=B5 t ht.nS;have e3:=ON s t hs.nS ht.nS;have e4:=Cc s.mt hs.mt;have e5:=Cc t.mt ht.mt;have hjA:=N4 (t:=t) hs;have hjB:=N3 (s:=s) ht;have e6:=DS {s with conn:=s.conn.set t.id.toNat true,copies:=s.copies.set t.id.toNat true,sync:=s.sync.set t.id.toNat (Bj s t)} {s.mt with bits:=s.mt.bits.set t.id.toNat (Bj s t)} hs.sl hjA.mt;have e7:=DS {t with conn:=t.conn.set s.id.toNat true} {t.mt with fine:=t.mt.fine&&decide ((Bj s t).length=0)} ht.sl hjB.mt;have e8:=Ab (HO s t) hjA.nS;have e9:=Ab (Kl s t) hjB.nS;rw[show A7 {s with conn:=s.conn.set t.id.toNat true,copies:=s.copies.set t.id.toNat true,sync:=s.sync.set t.id.toNat (Bj s t)} {s.mt with bits:=s.mt.bits.set t.id.toNat (Bj s t)}=HO s t from rfl]at e6;rw[show A7 {t with conn:=t.conn.set s.id.toNat true} {t.mt with fine:=t.mt.fine&&decide ((Bj s t).length=0)}=Kl s t from rfl]at e7;unfold EK;simp only[AD,lent,fN,fM,AA,AJ,kpA]at e0 e1 e2 e3 e4 e5 e6 e7 e8 e9;generalize HO s t=qa at*;generalize Kl s t=qb at*;by_cases hsr:EY s t=1
 ·obtain⟨o1,o2,o3,o4,o5,o6,o7⟩:=Pn (x:=s) (y:=t) (by omega);have ns:=Ai o1;have nt:=Ai o2;obtain⟨i,i3,hi⟩:=ns.nat;obtain⟨j,j3,hj⟩:=nt.nat;have hl:=J5 s t;obtain⟨c1,q1,_,c1',_⟩:=Aj s.conn (j:=j) (by have:=ns.conn;omega);obtain⟨c2,q2,_,c2',_⟩:=Aj t.conn (j:=i) (by have:=nt.conn;omega);obtain⟨c3,q3,_,c3',_⟩:=Aj s.copies (j:=j) (by have:=ns.copies;omega);obtain⟨c4,q4,_,c4',_,_⟩:=Ah s.sync (j:=j) (by have:=ns.sync;omega);obtain⟨c5,q5,_,c5',_,_⟩:=Ah s.mt.bits (j:=j) (by have:=ns.bits3;omega);generalize Bj s t=l at*;have g1:l.length<=4398046511104:=by omega
  have g2:l.length*8<=35184372088832:=by omega
  have s1:=A3 fL s.conn j true;have s2:=A3 fL t.conn i true;have s3:=A3 fL s.copies j true;have s4:=A3 fII s.sync j l;have s5:=A3 fII s.mt.bits j l;simp at s1 s2 s3 s4 s5;simp only[hi,hj,Int.toNat_natCast]at e0 e1 e2 e3 e6 e7;obtain⟨f,hf⟩: ∃f,f=(t.mt.fine&&decide (l.length=0)):=⟨_,rfl⟩;rw[<-hf]at e7;have hz:((l.length:Int)==0)=decide (l.length=0):=by
   by_cases h:l.length=0
   ·simp[h]
   ·have: ¬ (l.length:Int)=0:=by omega
    simp[h]
  cases hk:AL qa
  ·rw[hk]at e8
   cases h1:t.mt.fine<;>rw[h1]at hf e0 e2 e3 e5 e7<;>by_cases h2:l.length=0<;>simp[h2]at hf<;>subst hf<;>
    simp (maxSteps:=9999999) [p256,  hi,hj,e0,e1,e2,e3,e4,e5,e6,e7,e8,hsr,g1,g2,q1,q2,q3,q4,q5,c4',c5',s1,s2,s3,s4,s5,h1,h2,hz]
  cases hk2:AL qb
  ·rw[hk]at e8;rw[hk2]at e9
   cases h1:t.mt.fine<;>rw[h1]at hf e0 e2 e3 e5 e7<;>by_cases h2:l.length=0<;>simp[h2]at hf<;>subst hf<;>
    simp (maxSteps:=9999999) [p256,  hi,hj,e0,e1,e2,e3,e4,e5,e6,e7,e8,e9,hsr,g1,g2,q1,q2,q3,q4,q5,c4',c5',s1,s2,s3,s4,s5,h1,h2,hz]
  ·rw[hk]at e8;rw[hk2]at e9
   cases h1:t.mt.fine<;>rw[h1]at hf e0 e2 e3 e5 e7<;>by_cases h2:l.length=0<;>simp[h2]at hf<;>subst hf<;>
    simp (maxSteps:=9999999) [p256,  hi,hj,e0,e1,e2,e3,e4,e5,e6,e7,e8,e9,hsr,g1,g2,q1,q2,q3,q4,q5,c4',c5',s1,s2,s3,s4,s5,h1,h2,hz]
 ·simp[p256,  e0,e1,e2,hsr]
def IJ (n:AE) (m:A2):Ay:={gens:=m.gens,bits:=n.mt.bits,fine:=true,old:=if n.id<2 then false else n.mt.old,held:=if n.id<2 then false else n.mt.held,last:=m.val}
def LK (n:AE) (m:A2):AE:=A7 n (IJ n m)
theorem Tr [PKI] (n:AE) (m:A2) (hn:nB n) (hm:m.gens.length<=1000):sG 276 [.a (AA (fN n)),.a (AD (fMs m))]=some ⟨[.a (AA (fN (LK n m)))],[none,some (enc fI n.mt.gens),some (enc fII n.mt.bits),some (enc fU n.sl.a),some (enc fU n.sl.b),none,none,none,none],[]⟩:=by
 refine sK p276 ?_;have e1:=Cc n.mt hn.mt;have e2:=DS n (IJ n m) hn.sl (Dq hn (IJ n m) hm hn.bits hn.bit).mt;have g1:m.gens.length<=4398046511104:=by omega
 have g2:m.gens.length*8<=35184372088832:=by omega
 rw[show A7 n (IJ n m)=LK n m from rfl]at e2;generalize LK n m=q at*;unfold IJ at e2;simp only[AD,lent,fN,fM,AA,AJ,kpA]at e1 e2;by_cases h:n.id<2
 ·simp only[if_pos h]at e2;simp[p276,  e1,e2,g1,g2,h]
 ·simp only[if_neg h]at e2;simp[p276,  e1,e2,g1,g2,h]
def Pb (n:AE) (src:Int) (m:A2):Bz:=⟨n.id,src,⟨2,m.cell,m.val,0,[]⟩⟩
def I4 (n:AE) (src:Int) (m:A2):AE:=if src=Dd n.id then {CG n src m.cell m.val with wait:=clr (CG n src m.cell m.val).wait m.val} else CG n src m.cell m.val
def D3 (n:AE) (src:Int) (m:A2):AE×List Bz:=
 if m.kind=1 then(BO n src m.cell m.val,[Pb n src m])
 else if m.kind=4 then(A7 (DB n src m.cell m.val) (DB n src m.cell m.val).mt,[Pb n src m])
 else if m.kind=5 then(LK n m,[])
 else if m.kind=2 then(I4 n src m,if m.val=0 then []else tos (I4 n src m) src ⟨3,m.cell,m.val,src,[]⟩)
 else if m.who=n.id then(n,[])else(CG n m.who m.cell m.val,[])
def VV (n:AE):List (Option (List (List T))):=[some (enc fI n.image),some (enc fI n.mt.gens),some (enc fII n.mt.bits),none,none,none,none,none,none]
def GG (n:AE):List (Option (List (List T))):=[some (enc fI n.image),some (enc fI n.mt.gens),some (enc fII n.mt.bits),some (enc fU n.sl.a),some (enc fU n.sl.b),some (enc fL n.conn),some (enc fII n.sync),some (enc fL n.copies),some (enc fI n.wait)]
def Lx (n:AE):List (Option (List (List T))):=[none,some (enc fI n.mt.gens),some (enc fII n.mt.bits),some (enc fU n.sl.a),some (enc fU n.sl.b),none,none,none,none]
def Ly:List (Option (List (List T))):=[none,none,none,none,none,none,none,none,none]
theorem Gd {n:AE} {who cell val:Int} (h:nB n):nB (CG n who cell val):=by
 unfold CG;split
 ·obtain⟨k1,k2,k3⟩:=Lr (who:=who) (cell:=cell) h;exact Dq h _ k1 k2 k3
 ·exact h
theorem NO {n:AE} {src:Int} {m:A2} (h:nB n):nB (I4 n src m):=by
 have hk:=Gd (who:=src) (cell:=m.cell) (val:=m.val) h;unfold I4;split
 ·exact⟨hk.image,hk.gens,hk.bits,hk.bit,hk.sl,hk.conn,hk.sync,hk.syn,hk.copies,by have:=F6 (CG n src m.cell m.val).wait m.val;have:=hk.wait;simp only;omega⟩
 ·exact hk
theorem NG {n:AE} {src cell val:Int} (hn:nB n) (hbl: ∀x∈n.mt.bits,x.length<=800):nB (A7 (DB n src cell val) (DB n src cell val).mt):=by
 obtain⟨b1,b2⟩:=G0 (src:=src) (cell:=cell) hn.bits hbl;refine⟨by unfold A7 DB;simp only[Le];exact hn.image,hn.gens,b1,b2,CZ hn.sl _,hn.conn,hn.sync,hn.syn,hn.copies,hn.wait⟩
theorem Tq [PKI] (n:AE) (src:Int) (m:A2) (hn:nB n) (hbl: ∀x∈n.mt.bits,x.length<=800) (hm:C3 m=true): ∃fin,(fin=VV n\/fin=Ly\/fin=GG n\/fin=Lx n)/\sG 250 [.a (AA (fN n)),.v (.sc (I6 src)),.a (AD (fMs m))]=some ⟨[.a (AA (fN (D3 n src m).1)),.v (.own 7 (enc fP (D3 n src m).2))],fin,[]⟩:=by
 have hmg:m.gens.length<=12/\(m.kind≠5->m.gens=[])/\(m.kind=1\/m.kind=2\/m.kind=3\/m.kind=4\/m.kind=5):=by
  unfold C3 at hm;split at hm
  ·rename_i h5;simp only[Bool.and_eq_true]at hm;have:=hm.1.1.1;unfold Dj at this;simp only[Bool.and_eq_true,decide_eq_true_iff]at this;exact⟨by omega,λh=>absurd h5 h,by omega⟩
  ·split at hm
   ·rename_i h5 h;simp only[Bool.and_eq_true,decide_eq_true_iff]at hm;exact⟨by omega,λ_=>List.eq_nil_of_length_eq_zero hm.1.1.1,by omega⟩
   ·cases hm
 obtain⟨mg,mg0,mk⟩:=hmg;have e1:=OP n src m.cell m.val hn hbl;have e2:=SV n src m.cell m.val (by have:=hn.image;omega) hn.mt hn.bits (λx hx=>by have:=hbl x hx;omega);obtain⟨b1,b2⟩:=G0 (src:=src) (cell:=m.cell) hn.bits hbl;have e3:=DS (DB n src m.cell m.val) (DB n src m.cell m.val).mt hn.sl (NG (src:=src) (cell:=m.cell) (val:=m.val) hn hbl).mt;have e4:=Tr n m hn (by omega);have e5:=JJ n src m.cell m.val hn;have e6:=JJ n m.who m.cell m.val hn;have e7:=DQ n.id;have hk:=Gd (who:=src) (cell:=m.cell) (val:=m.val) hn;have e8:=II (CG n src m.cell m.val).wait m.val (by have:=hk.wait;omega);have e9:=Sc (I4 n src m) src ⟨3,m.cell,m.val,src,[]⟩ (NO hn).conn rfl;simp only[AD,lent,fN,fM,fMs,AA,AJ,kpA,TM]at e1 e2 e3 e4 e5 e6 e8 e9;rcases mk with h|h|h|h|h
 ·refine⟨VV n,.inl rfl,sK p250 ?_⟩;unfold D3 VV Pb;generalize BO n src m.cell m.val=q at*;simp[p250,  h,mg0 (by omega),e1]
 ·refine⟨GG n,.inr (.inr (.inl rfl)),sK p250 ?_⟩;unfold D3 GG;unfold I4 at*;generalize CG n src m.cell m.val=q at*;by_cases h1:src=Dd n.id
  ·simp only[if_pos h1]at e9 ⊢;by_cases h2:m.val=0
   ·simp[p250,  h,mg0 (by omega),e5,e7,e8,eq_true h1,eq_true h2]
   ·simp[p250,  h,mg0 (by omega),e5,e7,e8,e9,eq_true h1,h2]
  ·simp only[if_neg h1]at e9 ⊢;by_cases h2:m.val=0
   ·simp[p250,  h,mg0 (by omega),e5,e7,h1,eq_true h2]
   ·simp[p250,  h,mg0 (by omega),e5,e7,e9,h1,h2]
 ·by_cases h1:m.who=n.id
  ·refine⟨Ly,.inr (.inl rfl),sK p250 ?_⟩;unfold D3 Ly;simp[p250,  h,mg0 (by omega),eq_true h1]
  ·refine⟨GG n,.inr (.inr (.inl rfl)),sK p250 ?_⟩;unfold D3 GG;generalize CG n m.who m.cell m.val=q at*;simp[p250,  h,mg0 (by omega),h1,e6]
 ·refine⟨VV n,.inl rfl,sK p250 ?_⟩;unfold D3 VV Pb;generalize hq2:A7 (DB n src m.cell m.val) (DB n src m.cell m.val).mt=q2 at*;generalize DB n src m.cell m.val=q at*;simp[p250,  h,mg0 (by omega),e2,e3]
 ·refine⟨Lx n,.inr (.inr (.inr rfl)),sK p250 ?_⟩;unfold D3 Lx;generalize LK n m=q at*;rw[h]at e4;simp[p250,  h,e4]
end Go.Proofs.YtghgecpicnfgpaaGreat.Ow
