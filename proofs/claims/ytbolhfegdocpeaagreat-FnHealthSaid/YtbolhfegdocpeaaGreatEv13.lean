/- Functions evaluated on the small machine: Two that meet: what the reference makes of them, What is heard: what the reference makes of a node. -/
import Derived.Test.YtbolhfegdocpeaaGreatEv12
namespace Go.Proofs.YtbolhfegdocpeaaGreat.Ow
open Go
set_option linter.unusedVariables false
set_option linter.unusedSimpArgs false
set_option maxHeartbeats 8000000
variable {PK:Nat->List Arg->Option Res}
theorem mark_le (l:List Int) (a:Int) (h:C5 l=true):(D8 l a).length<=9:=by have:=E4 h;have:=Gh l a;omega
def Hj (s t:AG):AG:=Bb {s with conn:=s.conn.set t.id.toNat true,copies:=s.copies.set t.id.toNat true,sync:=s.sync.set t.id.toNat (DX s t)} {s.mt with bits:=s.mt.bits.set t.id.toNat (DX s t)}
def Ln (s t:AG):AG:=Bb {t with conn:=t.conn.set s.id.toNat true} {t.mt with fine:=t.mt.fine&&decide ((DX s t).length=0)}
def FO (s t:AG):AG×AG×Bool:=if Fk s t=1&&Am (Hj s t)&&Am (Ln s t)then(Hj s t,Ln s t,true)else(s,t,false)
theorem uni_len (a b:List Int):(uni a b).length<=a.length+b.length:=by
 unfold uni;have:=HL (a++b) [];simp only[List.length_append,List.length_nil]at this;omega
theorem L2 (x y:AG):(DX x y).length<=16:=by
 unfold DX;split
 ·rename_i h;rw[Bool.and_eq_true]at h;have nx:=A3 h.1;have ny:=A3 h.2;obtain⟨i,i3,hi⟩:=nx.nat;obtain⟨j,j3,hj⟩:=ny.nat;obtain⟨a,y1,ha,ha',had,ham⟩:=Ax x.mt.bits (j:=j) (by have:=nx.bits3;omega);obtain⟨b,y2,hb,hb',hbd,hbm⟩:=Ax y.mt.bits (j:=i) (by have:=ny.bits3;omega);have l1:=E4 (nx.bit8 a ham);have l2:=E4 (ny.bit8 b hbm);have:=uni_len a b;rw[hi,hj];simp only[Int.toNat_natCast,had,hbd];omega
 ·simp
theorem SK {x y:AG} (h:Fk x y≠0):Am x=true/\Am y=true/\x.id≠y.id/\x.up=true/\y.up=true/\x.conn.getD y.id.toNat false=false/\y.conn.getD x.id.toNat false=false:=by
 unfold Fk at h;split at h
 ·exact absurd rfl h
 ·rename_i h1;simp only[Bool.or_eq_true,Bool.not_eq_true,not_or,Bool.not_eq_true',decide_eq_true_iff]at h1;simp only[ne_eq,Bool.not_eq_false]at h1;exact⟨h1.1.1.1.1.1.1,h1.1.1.1.1.1.2,h1.1.1.1.1.2,h1.1.1.1.2,h1.1.1.2,h1.1.2,h1.2⟩
theorem Pc {s t:AG} (h:nB s):nB (Hj s t):=by
 have hl:=L2 s t;refine⟨h.image,h.gens,by unfold Hj Bb;simp only[List.length_set];exact h.bits,fun x hx=> ?_,CO h.sl _,by unfold Hj Bb;simp only[List.length_set];exact h.conn,by unfold Hj Bb;simp only[List.length_set];exact h.sync,fun x hx=> ?_,by unfold Hj Bb;simp only[List.length_set];exact h.copies,h.wait⟩
 ·rcases List.mem_or_eq_of_mem_set hx with hx|rfl
  ·exact h.bit x hx
  ·omega
 ·rcases List.mem_or_eq_of_mem_set hx with hx|rfl
  ·exact h.syn x hx
  ·omega
theorem Pb {s t:AG} (h:nB t):nB (Ln s t):=by
 refine⟨h.image,h.gens,h.bits,h.bit,CO h.sl _,by unfold Ln Bb;simp only[List.length_set];exact h.conn,h.sync,h.syn,h.copies,h.wait⟩
theorem I8 (s t:AG) (hs:nB s) (ht:nB t):AH G PK md 230 [.a (AJ (fN s)),.a (AJ (fN t))]=some ⟨[.a (AD (fN (FO s t).1)),.a (AD (fN (FO s t).2.1)),.v (.sc (.bool (FO s t).2.2))],[],[]⟩:=by
 refine AA (pf:=p230) rfl (by simp[p230]) ?_;have e0:=Gu (PK:=PK) s t hs.nS ht.nS;have e1:=Bo (PK:=PK) s hs.nS;have e2:=Bo (PK:=PK) t ht.nS;have e3:=L8 (PK:=PK) s t hs.nS ht.nS;have e4:=B8 (PK:=PK) s.mt hs.mt;have e5:=B8 (PK:=PK) t.mt ht.mt;have hjA:=Pc (t:=t) hs;have hjB:=Pb (s:=s) ht;have e6:=Cq (PK:=PK) {s with conn:=s.conn.set t.id.toNat true,copies:=s.copies.set t.id.toNat true,sync:=s.sync.set t.id.toNat (DX s t)} {s.mt with bits:=s.mt.bits.set t.id.toNat (DX s t)} hs.sl hjA.mt;have e7:=Cq (PK:=PK) {t with conn:=t.conn.set s.id.toNat true} {t.mt with fine:=t.mt.fine&&decide ((DX s t).length=0)} ht.sl hjB.mt;have e8:=AZ (PK:=PK) (Hj s t) hjA.nS;have e9:=AZ (PK:=PK) (Ln s t) hjB.nS;rw[show Bb {s with conn:=s.conn.set t.id.toNat true,copies:=s.copies.set t.id.toNat true,sync:=s.sync.set t.id.toNat (DX s t)} {s.mt with bits:=s.mt.bits.set t.id.toNat (DX s t)}=Hj s t from rfl]at e6;rw[show Bb {t with conn:=t.conn.set s.id.toNat true} {t.mt with fine:=t.mt.fine&&decide ((DX s t).length=0)}=Ln s t from rfl]at e7;unfold FO;simp only[AJ,lent,fN,fM,AD,AX,kpA]at e0 e1 e2 e3 e4 e5 e6 e7 e8 e9;generalize Hj s t=qa at*;generalize Ln s t=qb at*;by_cases hsr:Fk s t=1
 ·obtain⟨o1,o2,o3,o4,o5,o6,o7⟩:=SK (x:=s) (y:=t) (by omega);have ns:=A3 o1;have nt:=A3 o2;obtain⟨i,i3,hi⟩:=ns.nat;obtain⟨j,j3,hj⟩:=nt.nat;have hl:=L2 s t;obtain⟨c1,q1,_,c1',_⟩:=A1 s.conn (j:=j) (by have:=ns.conn;omega);obtain⟨c2,q2,_,c2',_⟩:=A1 t.conn (j:=i) (by have:=nt.conn;omega);obtain⟨c3,q3,_,c3',_⟩:=A1 s.copies (j:=j) (by have:=ns.copies;omega);obtain⟨c4,q4,_,c4',_,_⟩:=Ax s.sync (j:=j) (by have:=ns.sync;omega);obtain⟨c5,q5,_,c5',_,_⟩:=Ax s.mt.bits (j:=j) (by have:=ns.bits3;omega);generalize DX s t=l at*;have g1:l.length<=4398046511104:=by omega
  have g2:l.length*8<=35184372088832:=by omega
  have s1:=Bc fL s.conn j true;have s2:=Bc fL t.conn i true;have s3:=Bc fL s.copies j true;have s4:=Bc fII s.sync j l;have s5:=Bc fII s.mt.bits j l;simp at s1 s2 s3 s4 s5;simp only[hi,hj,Int.toNat_natCast]at e0 e1 e2 e3 e6 e7;obtain⟨f,hf⟩: ∃f,f=(t.mt.fine&&decide (l.length=0)):=⟨_,rfl⟩;rw[←hf]at e7;have hz:((l.length:Int)==0)=decide (l.length=0):=by
   by_cases h:l.length=0
   ·simp[h]
   ·have: ¬ (l.length:Int)=0:=by omega
    simp[h]
  cases hk:Am qa
  ·rw[hk]at e8
   cases h1:t.mt.fine<;>rw[h1]at hf e0 e2 e3 e5 e7<;>by_cases h2:l.length=0<;>simp[h2]at hf<;>subst hf<;>
    simp (config:={maxSteps:=10000000}) [p230,md,hi,hj,e0,e1,e2,e3,e4,e5,e6,e7,e8,hsr,g1,g2,q1,q2,q3,q4,q5,c4',c5',s1,s2,s3,s4,s5,AF,h1,h2,hz]
  cases hk2:Am qb
  ·rw[hk]at e8;rw[hk2]at e9
   cases h1:t.mt.fine<;>rw[h1]at hf e0 e2 e3 e5 e7<;>by_cases h2:l.length=0<;>simp[h2]at hf<;>subst hf<;>
    simp (config:={maxSteps:=10000000}) [p230,md,hi,hj,e0,e1,e2,e3,e4,e5,e6,e7,e8,e9,hsr,g1,g2,q1,q2,q3,q4,q5,c4',c5',s1,s2,s3,s4,s5,AF,h1,h2,hz]
  ·rw[hk]at e8;rw[hk2]at e9
   cases h1:t.mt.fine<;>rw[h1]at hf e0 e2 e3 e5 e7<;>by_cases h2:l.length=0<;>simp[h2]at hf<;>subst hf<;>
    simp (config:={maxSteps:=10000000}) [p230,md,hi,hj,e0,e1,e2,e3,e4,e5,e6,e7,e8,e9,hsr,g1,g2,q1,q2,q3,q4,q5,c4',c5',s1,s2,s3,s4,s5,AF,h1,h2,hz]
 ·simp[p230,md,e0,e1,e2,hsr,AF]
def Np (n:AG) (m:BI):Av:={gens:=m.gens,bits:=n.mt.bits,fine:=true,old:=if n.id<2 then false else n.mt.old,held:=if n.id<2 then false else n.mt.held,last:=m.val}
def P5 (n:AG) (m:BI):AG:=Bb n (Np n m)
theorem Q8 (n:AG) (m:BI) (hn:nB n) (hm:m.gens.length<=1000):AH G PK md 243 [.a (AD (fN n)),.a (AJ (fMs m))]=some ⟨[.a (AD (fN (P5 n m)))],[none,some (enc fI n.mt.gens),some (enc fII n.mt.bits),some (enc fU n.sl.a),some (enc fU n.sl.b),none,none,none,none],[]⟩:=by
 refine AA (pf:=p243) rfl (by simp[p243]) ?_;have e1:=B8 (PK:=PK) n.mt hn.mt;have e2:=Cq (PK:=PK) n (Np n m) hn.sl (Es hn (Np n m) hm hn.bits hn.bit).mt;have g1:m.gens.length<=4398046511104:=by omega
 have g2:m.gens.length*8<=35184372088832:=by omega
 rw[show Bb n (Np n m)=P5 n m from rfl]at e2;generalize P5 n m=q at*;unfold Np at e2;simp only[AJ,lent,fN,fM,AD,AX,kpA]at e1 e2;by_cases h:n.id<2
 ·simp only[if_pos h]at e2;simp[p243,md,e1,e2,g1,g2,h]
 ·simp only[if_neg h]at e2;simp[p243,md,e1,e2,g1,g2,h]
def S4 (n:AG) (src:Int) (m:BI):Ci:=⟨n.id,src,⟨2,m.cell,m.val,0,[]⟩⟩
def Or (n:AG) (src:Int) (m:BI):AG:=if src=GI n.id then {DP n src m.cell m.val with wait:=clr (DP n src m.cell m.val).wait m.val} else DP n src m.cell m.val
def Dx (n:AG) (src:Int) (m:BI):AG×List Ci:=
 if m.kind=1 then(E8 n src m.cell m.val,[S4 n src m])
 else if m.kind=4 then(Bb (ET n src m.cell m.val) (ET n src m.cell m.val).mt,[S4 n src m])
 else if m.kind=5 then(P5 n m,[])
 else if m.kind=2 then(Or n src m,if m.val=0 then []else tos (Or n src m) src ⟨3,m.cell,m.val,src,[]⟩)
 else if m.who=n.id then(n,[])else(DP n m.who m.cell m.val,[])
def Si (n:AG):List (Option (List (List T))):=[some (enc fI n.image),some (enc fI n.mt.gens),some (enc fII n.mt.bits),none,none,none,none,none,none]
def Sh (n:AG):List (Option (List (List T))):=[some (enc fI n.image),some (enc fI n.mt.gens),some (enc fII n.mt.bits),some (enc fU n.sl.a),some (enc fU n.sl.b),some (enc fL n.conn),some (enc fII n.sync),some (enc fL n.copies),some (enc fI n.wait)]
def finD (n:AG):List (Option (List (List T))):=[none,some (enc fI n.mt.gens),some (enc fII n.mt.bits),some (enc fU n.sl.a),some (enc fU n.sl.b),none,none,none,none]
def finB:List (Option (List (List T))):=[none,none,none,none,none,none,none,none,none]
theorem Jd {n:AG} {who cell val:Int} (h:nB n):nB (DP n who cell val):=by
 unfold DP;split
 ·obtain⟨k1,k2,k3⟩:=NT (who:=who) (cell:=cell) h;exact Es h _ k1 k2 k3
 ·exact h
theorem SA {n:AG} {src:Int} {m:BI} (h:nB n):nB (Or n src m):=by
 have hk:=Jd (who:=src) (cell:=m.cell) (val:=m.val) h;unfold Or;split
 ·exact⟨hk.image,hk.gens,hk.bits,hk.bit,hk.sl,hk.conn,hk.sync,hk.syn,hk.copies,by have:=F0 (DP n src m.cell m.val).wait m.val;have:=hk.wait;simp only;omega⟩
 ·exact hk
theorem N7 {n:AG} {src cell val:Int} (hn:nB n) (hbl: ∀x∈n.mt.bits,x.length<=800):nB (Bb (ET n src cell val) (ET n src cell val).mt):=by
 obtain⟨b1,b2⟩:=H3 (src:=src) (cell:=cell) hn.bits hbl;refine⟨by unfold Bb ET;simp only[NG];exact hn.image,hn.gens,b1,b2,CO hn.sl _,hn.conn,hn.sync,hn.syn,hn.copies,hn.wait⟩
theorem Q7 (n:AG) (src:Int) (m:BI) (hn:nB n) (hbl: ∀x∈n.mt.bits,x.length<=800) (hm:EX m=true): ∃fin,(fin=Si n\/fin=finB\/fin=Sh n\/fin=finD n)/\AH G PK md 224 [.a (AD (fN n)),.v (.sc (.int .i64 src)),.a (AJ (fMs m))]=some ⟨[.a (AD (fN (Dx n src m).1)),.v (.own 7 (enc fP (Dx n src m).2))],fin,[]⟩:=by
 have hmg:m.gens.length<=12/\(m.kind≠5->m.gens=[])/\(m.kind=1\/m.kind=2\/m.kind=3\/m.kind=4\/m.kind=5):=by
  unfold EX at hm;split at hm
  ·rename_i h5;simp only[Bool.and_eq_true]at hm;have:=hm.1.1.1;unfold De at this;simp only[Bool.and_eq_true,decide_eq_true_iff]at this;exact⟨by omega,fun h=>absurd h5 h,by omega⟩
  ·split at hm
   ·rename_i h5 h;simp only[Bool.and_eq_true,decide_eq_true_iff]at hm;exact⟨by omega,fun _=>List.eq_nil_of_length_eq_zero hm.1.1.1,by omega⟩
   ·cases hm
 obtain⟨mg,mg0,mk⟩:=hmg;have e1:=MB (PK:=PK) n src m.cell m.val hn hbl;have e2:=Ps (PK:=PK) n src m.cell m.val (by have:=hn.image;omega) hn.mt hn.bits (fun x hx=>by have:=hbl x hx;omega);obtain⟨b1,b2⟩:=H3 (src:=src) (cell:=m.cell) hn.bits hbl;have e3:=Cq (PK:=PK) (ET n src m.cell m.val) (ET n src m.cell m.val).mt hn.sl (N7 (src:=src) (cell:=m.cell) (val:=m.val) hn hbl).mt;have e4:=Q8 (PK:=PK) n m hn (by omega);have e5:=Ho (PK:=PK) n src m.cell m.val hn;have e6:=Ho (PK:=PK) n m.who m.cell m.val hn;have e7:=Cp (PK:=PK) n.id;have hk:=Jd (who:=src) (cell:=m.cell) (val:=m.val) hn;have e8:=G1 (PK:=PK) (DP n src m.cell m.val).wait m.val (by have:=hk.wait;omega);have e9:=Py (PK:=PK) (Or n src m) src ⟨3,m.cell,m.val,src,[]⟩ (SA hn).conn rfl;simp only[AJ,lent,fN,fM,fMs,AD,AX,kpA,pmsg]at e1 e2 e3 e4 e5 e6 e8 e9;rcases mk with h|h|h|h|h
 ·refine⟨Si n,.inl rfl,AA (pf:=p224) rfl (by simp[p224]) ?_⟩;unfold Dx Si S4;generalize E8 n src m.cell m.val=q at*;simp[p224,md,h,mg0 (by omega),e1]
 ·refine⟨Sh n,.inr (.inr (.inl rfl)),AA (pf:=p224) rfl (by simp[p224]) ?_⟩;unfold Dx Sh;unfold Or at*;generalize DP n src m.cell m.val=q at*;by_cases h1:src=GI n.id
  ·simp only[if_pos h1]at e9 ⊢;by_cases h2:m.val=0
   ·simp[p224,md,h,mg0 (by omega),e5,e7,e8,eq_true h1,eq_true h2]
   ·simp[p224,md,h,mg0 (by omega),e5,e7,e8,e9,eq_true h1,h2]
  ·simp only[if_neg h1]at e9 ⊢;by_cases h2:m.val=0
   ·simp[p224,md,h,mg0 (by omega),e5,e7,h1,eq_true h2]
   ·simp[p224,md,h,mg0 (by omega),e5,e7,e9,h1,h2]
 ·by_cases h1:m.who=n.id
  ·refine⟨finB,.inr (.inl rfl),AA (pf:=p224) rfl (by simp[p224]) ?_⟩;unfold Dx finB;simp[p224,md,h,mg0 (by omega),eq_true h1]
  ·refine⟨Sh n,.inr (.inr (.inl rfl)),AA (pf:=p224) rfl (by simp[p224]) ?_⟩;unfold Dx Sh;generalize DP n m.who m.cell m.val=q at*;simp[p224,md,h,mg0 (by omega),h1,e6]
 ·refine⟨Si n,.inl rfl,AA (pf:=p224) rfl (by simp[p224]) ?_⟩;unfold Dx Si S4;generalize hq2:Bb (ET n src m.cell m.val) (ET n src m.cell m.val).mt=q2 at*;generalize ET n src m.cell m.val=q at*;simp[p224,md,h,mg0 (by omega),e2,e3]
 ·refine⟨finD n,.inr (.inr (.inr rfl)),AA (pf:=p224) rfl (by simp[p224]) ?_⟩;unfold Dx finD;generalize P5 n m=q at*;rw[h]at e4;simp[p224,md,h,e4]
end Go.Proofs.YtbolhfegdocpeaaGreat.Ow
