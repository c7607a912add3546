/- Functions evaluated on the small machine: Messages that are right, and to whom they go: what the reference says, Two that meet: what the reference makes of them, What is heard: what the reference makes of a node. -/
import Derived.Test.YtbolhfegdocpeaaGreatEv10
namespace Go.Proofs.YtbolhfegdocpeaaGreat.Ow
open Go
set_option linter.unusedVariables false
set_option linter.unusedSimpArgs false
set_option maxHeartbeats 4000000
variable {PK:Nat->List Arg->Option Res}
def msgOk (m:MsgD):Bool:=
 if m.kind=5 then gnOk m.gens&&inB m.val 0 200&&decide (m.cell=0)&&decide (m.who=0)
 else if m.kind=1\/m.kind=2\/m.kind=3\/m.kind=4 then decide (m.gens.length=0)&&inB m.cell 0 7&&inB m.val (1 - bit (decide (m.kind=4)||decide (m.kind=2)) 1) 200&&(decide (m.kind=3)&&inB m.who 0 2||decide (m.who=0))
 else false
theorem ev_spec_MsgOk (m:MsgD) (hm:m.gens.length<=1048576):semK G PK md 150 [.a (lents (fMs m))]=some ⟨[.v (.sc (.bool (msgOk m)))],[],[]⟩:=by
 refine semK_of (pf:=p150) rfl (by simp[p150]) ?_
 obtain⟨k,c,v,w,g⟩:=m
 have e1:=ev_spec_GensOk (PK:=PK) g hm
 have e2:=ev_l1In (PK:=PK) v 0 200
 have e3:=ev_l1In (PK:=PK) c 0 7
 have e4:=ev_l1In (PK:=PK) v 1 200
 have e5:=ev_l1In (PK:=PK) w 0 2
 have b1:=ev_l1Bit (PK:=PK) true
 have b0:=ev_l1Bit (PK:=PK) false
 have t1:bit true 1=1:=rfl
 have t0:bit false 1=0:=rfl
 have w0:IntKind.wrap .i64 0=0:=rfl
 rw[t1]at b1
 rw[t0]at b0
 unfold msgOk
 simp only
 by_cases h5:k=5
 ·subst h5
  cases h1:gnOk g
  ·simp[p150,md,e1,h1]
  cases h2:inB v 0 200
  ·simp[p150,md,e1,e2,h1,h2]
  by_cases h3:c=0<;>by_cases h4:w=0<;>simp[p150,md,e1,e2,h1,h2,h3,h4]
 by_cases h:k=1\/k=2\/k=3\/k=4
 ·by_cases hg:g.length=0
  ·cases h3:inB c 0 7
   ·rcases h with rfl|rfl|rfl|rfl<;>simp[p150,md,hg,e3,h3]
   rcases h with rfl|rfl|rfl|rfl
   ·cases h6:inB v 1 200
    ·simp[p150,md,hg,e3,h3,b0,b1,t0,t1,w0,wrap1,e4,h6]
    ·by_cases h4:w=0<;>simp[p150,md,hg,e3,h3,b0,b1,t0,t1,w0,wrap1,e4,h6,h4]
   ·cases h6:inB v 0 200
    ·simp[p150,md,hg,e3,h3,b0,b1,t0,t1,w0,wrap1,e2,h6]
    ·by_cases h4:w=0<;>simp[p150,md,hg,e3,h3,b0,b1,t0,t1,w0,wrap1,e2,h6,h4]
   ·cases h6:inB v 1 200
    ·simp[p150,md,hg,e3,h3,b0,b1,t0,t1,w0,wrap1,e4,h6]
    ·cases h7:inB w 0 2
     ·have h4:w≠0:=fun h=>by subst h;cases h7
      simp[p150,md,hg,e3,h3,b0,b1,t0,t1,w0,wrap1,e4,e5,h6,h7,h4]
     ·simp[p150,md,hg,e3,h3,b0,b1,t0,t1,w0,wrap1,e4,e5,h6,h7]
   ·cases h6:inB v 0 200
    ·simp[p150,md,hg,e3,h3,b0,b1,t0,t1,w0,wrap1,e2,h6]
    ·by_cases h4:w=0<;>simp[p150,md,hg,e3,h3,b0,b1,t0,t1,w0,wrap1,e2,h6,h4]
  ·rcases h with rfl|rfl|rfl|rfl<;>simp[p150,md,hg]
 ·simp only[not_or]at h
  simp[p150,md,h5,h.1,h.2.1,h.2.2.1,h.2.2.2]
theorem msgOk_gens {m:MsgD} (h:msgOk m=true):m.gens.length<=12:=by
 unfold msgOk at h
 split at h
 ·simp only[Bool.and_eq_true]at h
  have:=h.1.1.1
  unfold gnOk at this
  simp only[Bool.and_eq_true,decide_eq_true_iff]at this
  omega
 ·split at h
  ·simp only[Bool.and_eq_true,decide_eq_true_iff]at h
   have:=h.1.1.1
   omega
  ·cases h
def to1 (n:NodeD) (but:Int) (m:MsgD) (k:Nat):List PostD:=if n.conn.getD k false=true/\(k:Int)≠but then [⟨n.id,k,m⟩]else []
def tos (n:NodeD) (but:Int) (m:MsgD):List PostD:=(List.range 3).flatMap (to1 n but m)
theorem tos_len (n:NodeD) (but:Int) (m:MsgD): ∀j,((List.range j).flatMap (to1 n but m)).length<=j
 |0=>by simp
 |j+1=>by
  have:=tos_len n but m j
  rw[List.range_succ,List.flatMap_append,List.length_append]
  simp only[List.flatMap_cons,List.flatMap_nil,List.append_nil]
  generalize (List.range j).flatMap (to1 n but m)=o at*
  unfold to1
  split<;>simp<;>omega
theorem tos_succ (n:NodeD) (but:Int) (m:MsgD) (j:Nat):(List.range (j+1)).flatMap (to1 n but m)=(List.range j).flatMap (to1 n but m)++to1 n but m j:=by
 rw[List.range_succ,List.flatMap_append]
 simp
@[simp] def pmsg (m:MsgD):List L:=[.sc (.int .i64 m.kind),.sc (.int .i64 m.cell),.sc (.int .i64 m.val),.sc (.int .i64 m.who),.nil 1]
@[simp] def st228 (n:NodeD) (but:Int) (m:MsgD) (out:List PostD) (j:Nat):St:={n:=33,m:=0,tm:=[(1,.sc (.int .i64 but)),(3,.pb 10000000 0),(5,.pb 10000001 0),(7,.ref 10000002 []),(8,.sc (.int .i64 j))],ob:=[(10000000,nbox n),(10000001,.box [.sc (.int .i64 m.kind),.sc (.int .i64 m.cell),.sc (.int .i64 m.val),.sc (.int .i64 m.who),.nil 1]),(10000002,.arr 7 (enc fP out))]}
theorem ev_l10To (n:NodeD) (but:Int) (m:MsgD) (hn:n.conn.length=3) (hm:m.gens=[]):semK G PK md 228 [.a (lents (fN n)),.v (.sc (.int .i64 but)),.a (pmsg m)]=some ⟨[.v (.own 7 (enc fP (tos n but m)))],[],[]⟩:=by
 refine semK_of (pf:=p228) rfl (by simp[p228]) ?_
 have hs:=loop_ok (G:=G) (PK:=PK) (md:=md) (o:=10000000) (live:=[1,3,5,7,8]) (c:=b228_0) (fun j=>st228 n but m ((List.range j).flatMap (to1 n but m)) j) 3 (fun j hj=>by
  obtain⟨x,y1,hx,hx',hxd⟩:=getB_ex n.conn (j:=j) (by omega)
  have hinc:=incr hj (by omega)
  have hl:=tos_len n but m j
  simp only[tos_succ]
  generalize (List.range j).flatMap (to1 n but m)=out at hl ⊢
  have hj3:(j:Int)<3:=by omega
  have g1:(out.length+1)*72<=35184372088832:=by omega
  unfold to1
  rw[hxd]
  cases x
  ·simp[b228_0,md,hj3,hinc,y1,hx']
  by_cases hb:(j:Int)=but
  ·simp[b228_0,md,hj3,hinc,y1,hx',eq_true hb]
  ·simp[b228_0,md,hj3,hinc,y1,hx',hb,g1,hm]
   simp[enc,hm]) (by simp[b228_0])
 unfold tos
 simp[p228,md]
 rw[hs]
 ·simp[b228_0]
 ·simp
 ·simp
end Go.Proofs.YtbolhfegdocpeaaGreat.Ow
namespace Go.Proofs.YtbolhfegdocpeaaGreat.Ow
open Go
set_option linter.unusedVariables false
set_option linter.unusedSimpArgs false
set_option maxHeartbeats 8000000
variable {PK:Nat->List Arg->Option Res}
theorem mark_le (l:List Int) (a:Int) (h:mkOk l=true):(mark l a).length<=9:=by have:=mk_len h;have:=mark_len l a;omega
def joinA (s t:NodeD):NodeD:=keepN {s with conn:=s.conn.set t.id.toNat true,copies:=s.copies.set t.id.toNat true,sync:=s.sync.set t.id.toNat (extent s t)} {s.mt with bits:=s.mt.bits.set t.id.toNat (extent s t)}
def joinB (s t:NodeD):NodeD:=keepN {t with conn:=t.conn.set s.id.toNat true} {t.mt with fine:=t.mt.fine&&decide ((extent s t).length=0)}
def joinN (s t:NodeD):NodeD×NodeD×Bool:=if source s t=1&&nodeOk (joinA s t)&&nodeOk (joinB s t)then(joinA s t,joinB s t,true)else(s,t,false)
theorem uni_len (a b:List Int):(uni a b).length<=a.length+b.length:=by
 unfold uni
 have:=markF_len (a++b) []
 simp only[List.length_append,List.length_nil]at this
 omega
theorem extent_len (x y:NodeD):(extent x y).length<=16:=by
 unfold extent
 split
 ·rename_i h
  rw[Bool.and_eq_true]at h
  have nx:=nodeOk_of h.1
  have ny:=nodeOk_of h.2
  obtain⟨i,i3,hi⟩:=nx.nat
  obtain⟨j,j3,hj⟩:=ny.nat
  obtain⟨a,y1,ha,ha',had,ham⟩:=getDD_ex x.mt.bits (j:=j) (by have:=nx.bits3;omega)
  obtain⟨b,y2,hb,hb',hbd,hbm⟩:=getDD_ex y.mt.bits (j:=i) (by have:=ny.bits3;omega)
  have l1:=mk_len (nx.bit8 a ham)
  have l2:=mk_len (ny.bit8 b hbm)
  have:=uni_len a b
  rw[hi,hj]
  simp only[Int.toNat_natCast,had,hbd]
  omega
 ·simp
theorem source_ok {x y:NodeD} (h:source x y≠0):nodeOk x=true/\nodeOk y=true/\x.id≠y.id/\x.up=true/\y.up=true/\x.conn.getD y.id.toNat false=false/\y.conn.getD x.id.toNat false=false:=by
 unfold source at h
 split at h
 ·exact absurd rfl h
 ·rename_i h1
  simp only[Bool.or_eq_true,Bool.not_eq_true,not_or,Bool.not_eq_true',decide_eq_true_iff]at h1
  simp only[ne_eq,Bool.not_eq_false]at h1
  exact⟨h1.1.1.1.1.1.1,h1.1.1.1.1.1.2,h1.1.1.1.1.2,h1.1.1.1.2,h1.1.1.2,h1.1.2,h1.2⟩
theorem joinA_nB {s t:NodeD} (h:nB s):nB (joinA s t):=by
 have hl:=extent_len s t
 refine⟨h.image,h.gens,by unfold joinA keepN;simp only[List.length_set];exact h.bits,fun x hx=> ?_,slotPut_S h.sl _,by unfold joinA keepN;simp only[List.length_set];exact h.conn,by unfold joinA keepN;simp only[List.length_set];exact h.sync,fun x hx=> ?_,by unfold joinA keepN;simp only[List.length_set];exact h.copies,h.wait⟩
 ·rcases List.mem_or_eq_of_mem_set hx with hx|rfl
  ·exact h.bit x hx
  ·omega
 ·rcases List.mem_or_eq_of_mem_set hx with hx|rfl
  ·exact h.syn x hx
  ·omega
theorem joinB_nB {s t:NodeD} (h:nB t):nB (joinB s t):=by
 refine⟨h.image,h.gens,h.bits,h.bit,slotPut_S h.sl _,by unfold joinB keepN;simp only[List.length_set];exact h.conn,h.sync,h.syn,h.copies,h.wait⟩
theorem ev_spec_Join (s t:NodeD) (hs:nB s) (ht:nB t):semK G PK md 230 [.a (lents (fN s)),.a (lents (fN t))]=some ⟨[.a (owneds (fN (joinN s t).1)),.a (owneds (fN (joinN s t).2.1)),.v (.sc (.bool (joinN s t).2.2))],[],[]⟩:=by
 refine semK_of (pf:=p230) rfl (by simp[p230]) ?_
 have e0:=ev_spec_Source (PK:=PK) s t hs.nS ht.nS
 have e1:=ev_l8Copy (PK:=PK) s hs.nS
 have e2:=ev_l8Copy (PK:=PK) t ht.nS
 have e3:=ev_spec_Extent (PK:=PK) s t hs.nS ht.nS
 have e4:=ev_l5Copy (PK:=PK) s.mt hs.mt
 have e5:=ev_l5Copy (PK:=PK) t.mt ht.mt
 have hjA:=joinA_nB (t:=t) hs
 have hjB:=joinB_nB (s:=s) ht
 have e6:=ev_l8Keep (PK:=PK) {s with conn:=s.conn.set t.id.toNat true,copies:=s.copies.set t.id.toNat true,sync:=s.sync.set t.id.toNat (extent s t)} {s.mt with bits:=s.mt.bits.set t.id.toNat (extent s t)} hs.sl hjA.mt
 have e7:=ev_l8Keep (PK:=PK) {t with conn:=t.conn.set s.id.toNat true} {t.mt with fine:=t.mt.fine&&decide ((extent s t).length=0)} ht.sl hjB.mt
 have e8:=ev_spec_NodeOk (PK:=PK) (joinA s t) hjA.nS
 have e9:=ev_spec_NodeOk (PK:=PK) (joinB s t) hjB.nS
 rw[show keepN {s with conn:=s.conn.set t.id.toNat true,copies:=s.copies.set t.id.toNat true,sync:=s.sync.set t.id.toNat (extent s t)} {s.mt with bits:=s.mt.bits.set t.id.toNat (extent s t)}=joinA s t from rfl]at e6
 rw[show keepN {t with conn:=t.conn.set s.id.toNat true} {t.mt with fine:=t.mt.fine&&decide ((extent s t).length=0)}=joinB s t from rfl]at e7
 unfold joinN
 simp only[lents,lent,fN,fM,owneds,owned,kpA]at e0 e1 e2 e3 e4 e5 e6 e7 e8 e9
 generalize joinA s t=qa at*
 generalize joinB s t=qb at*
 by_cases hsr:source s t=1
 ·obtain⟨o1,o2,o3,o4,o5,o6,o7⟩:=source_ok (x:=s) (y:=t) (by omega)
  have ns:=nodeOk_of o1
  have nt:=nodeOk_of o2
  obtain⟨i,i3,hi⟩:=ns.nat
  obtain⟨j,j3,hj⟩:=nt.nat
  have hl:=extent_len s t
  obtain⟨c1,q1,_,c1',_⟩:=getB_ex s.conn (j:=j) (by have:=ns.conn;omega)
  obtain⟨c2,q2,_,c2',_⟩:=getB_ex t.conn (j:=i) (by have:=nt.conn;omega)
  obtain⟨c3,q3,_,c3',_⟩:=getB_ex s.copies (j:=j) (by have:=ns.copies;omega)
  obtain⟨c4,q4,_,c4',_,_⟩:=getDD_ex s.sync (j:=j) (by have:=ns.sync;omega)
  obtain⟨c5,q5,_,c5',_,_⟩:=getDD_ex s.mt.bits (j:=j) (by have:=ns.bits3;omega)
  generalize extent s t=l at*
  have g1:l.length<=4398046511104:=by omega
  have g2:l.length*8<=35184372088832:=by omega
  have s1:=enc_set fL s.conn j true
  have s2:=enc_set fL t.conn i true
  have s3:=enc_set fL s.copies j true
  have s4:=enc_set fII s.sync j l
  have s5:=enc_set fII s.mt.bits j l
  simp at s1 s2 s3 s4 s5
  simp only[hi,hj,Int.toNat_natCast]at e0 e1 e2 e3 e6 e7
  obtain⟨f,hf⟩: ∃f,f=(t.mt.fine&&decide (l.length=0)):=⟨_,rfl⟩
  rw[←hf]at e7
  have hz:((l.length:Int)==0)=decide (l.length=0):=by
   by_cases h:l.length=0
   ·simp[h]
   ·have: ¬ (l.length:Int)=0:=by omega
    simp[h]
  cases hk:nodeOk qa
  ·rw[hk]at e8
   cases h1:t.mt.fine<;>rw[h1]at hf e0 e2 e3 e5 e7<;>by_cases h2:l.length=0<;>simp[h2]at hf<;>subst hf<;>
    simp (config:={maxSteps:=10000000}) [p230,md,hi,hj,e0,e1,e2,e3,e4,e5,e6,e7,e8,hsr,g1,g2,q1,q2,q3,q4,q5,c4',c5',s1,s2,s3,s4,s5,Alike2,h1,h2,hz]
  cases hk2:nodeOk qb
  ·rw[hk]at e8
   rw[hk2]at e9
   cases h1:t.mt.fine<;>rw[h1]at hf e0 e2 e3 e5 e7<;>by_cases h2:l.length=0<;>simp[h2]at hf<;>subst hf<;>
    simp (config:={maxSteps:=10000000}) [p230,md,hi,hj,e0,e1,e2,e3,e4,e5,e6,e7,e8,e9,hsr,g1,g2,q1,q2,q3,q4,q5,c4',c5',s1,s2,s3,s4,s5,Alike2,h1,h2,hz]
  ·rw[hk]at e8
   rw[hk2]at e9
   cases h1:t.mt.fine<;>rw[h1]at hf e0 e2 e3 e5 e7<;>by_cases h2:l.length=0<;>simp[h2]at hf<;>subst hf<;>
    simp (config:={maxSteps:=10000000}) [p230,md,hi,hj,e0,e1,e2,e3,e4,e5,e6,e7,e8,e9,hsr,g1,g2,q1,q2,q3,q4,q5,c4',c5',s1,s2,s3,s4,s5,Alike2,h1,h2,hz]
 ·simp[p230,md,e0,e1,e2,hsr,Alike2]
end Go.Proofs.YtbolhfegdocpeaaGreat.Ow
namespace Go.Proofs.YtbolhfegdocpeaaGreat.Ow
open Go
set_option linter.unusedVariables false
set_option linter.unusedSimpArgs false
set_option maxHeartbeats 8000000
variable {PK:Nat->List Arg->Option Res}
def doneM (n:NodeD) (m:MsgD):MetaD:={gens:=m.gens,bits:=n.mt.bits,fine:=true,old:=if n.id<2 then false else n.mt.old,held:=if n.id<2 then false else n.mt.held,last:=m.val}
def doneN (n:NodeD) (m:MsgD):NodeD:=keepN n (doneM n m)
theorem ev_l10Done (n:NodeD) (m:MsgD) (hn:nB n) (hm:m.gens.length<=1000):semK G PK md 243 [.a (owneds (fN n)),.a (lents (fMs m))]=some ⟨[.a (owneds (fN (doneN n m)))],[none,some (enc fI n.mt.gens),some (enc fII n.mt.bits),some (enc fU n.sl.a),some (enc fU n.sl.b),none,none,none,none],[]⟩:=by
 refine semK_of (pf:=p243) rfl (by simp[p243]) ?_
 have e1:=ev_l5Copy (PK:=PK) n.mt hn.mt
 have e2:=ev_l8Keep (PK:=PK) n (doneM n m) hn.sl (slot_nB hn (doneM n m) hm hn.bits hn.bit).mt
 have g1:m.gens.length<=4398046511104:=by omega
 have g2:m.gens.length*8<=35184372088832:=by omega
 rw[show keepN n (doneM n m)=doneN n m from rfl]at e2
 generalize doneN n m=q at*
 unfold doneM at e2
 simp only[lents,lent,fN,fM,owneds,owned,kpA]at e1 e2
 by_cases h:n.id<2
 ·simp only[if_pos h]at e2
  simp[p243,md,e1,e2,g1,g2,h]
 ·simp only[if_neg h]at e2
  simp[p243,md,e1,e2,g1,g2,h]
def ackP (n:NodeD) (src:Int) (m:MsgD):PostD:=⟨n.id,src,⟨2,m.cell,m.val,0,[]⟩⟩
def ackN (n:NodeD) (src:Int) (m:MsgD):NodeD:=if src=mate n.id then {knownN n src m.cell m.val with wait:=clr (knownN n src m.cell m.val).wait m.val} else knownN n src m.cell m.val
def hear0 (n:NodeD) (src:Int) (m:MsgD):NodeD×List PostD:=
 if m.kind=1 then(applyN n src m.cell m.val,[ackP n src m])
 else if m.kind=4 then(keepN (putN n src m.cell m.val) (putN n src m.cell m.val).mt,[ackP n src m])
 else if m.kind=5 then(doneN n m,[])
 else if m.kind=2 then(ackN n src m,if m.val=0 then []else tos (ackN n src m) src ⟨3,m.cell,m.val,src,[]⟩)
 else if m.who=n.id then(n,[])else(knownN n m.who m.cell m.val,[])
def finA (n:NodeD):List (Option (List (List T))):=[some (enc fI n.image),some (enc fI n.mt.gens),some (enc fII n.mt.bits),none,none,none,none,none,none]
def finC (n:NodeD):List (Option (List (List T))):=[some (enc fI n.image),some (enc fI n.mt.gens),some (enc fII n.mt.bits),some (enc fU n.sl.a),some (enc fU n.sl.b),some (enc fL n.conn),some (enc fII n.sync),some (enc fL n.copies),some (enc fI n.wait)]
def finD (n:NodeD):List (Option (List (List T))):=[none,some (enc fI n.mt.gens),some (enc fII n.mt.bits),some (enc fU n.sl.a),some (enc fU n.sl.b),none,none,none,none]
def finB:List (Option (List (List T))):=[none,none,none,none,none,none,none,none,none]
theorem knownN_nB {n:NodeD} {who cell val:Int} (h:nB n):nB (knownN n who cell val):=by
 unfold knownN
 split
 ·obtain⟨k1,k2,k3⟩:=knownM_bd (who:=who) (cell:=cell) h
  exact slot_nB h _ k1 k2 k3
 ·exact h
theorem ackN_nB {n:NodeD} {src:Int} {m:MsgD} (h:nB n):nB (ackN n src m):=by
 have hk:=knownN_nB (who:=src) (cell:=m.cell) (val:=m.val) h
 unfold ackN
 split
 ·exact⟨hk.image,hk.gens,hk.bits,hk.bit,hk.sl,hk.conn,hk.sync,hk.syn,hk.copies,by have:=clr_len (knownN n src m.cell m.val).wait m.val;have:=hk.wait;simp only;omega⟩
 ·exact hk
theorem putN_nB {n:NodeD} {src cell val:Int} (hn:nB n) (hbl: ∀x∈n.mt.bits,x.length<=800):nB (keepN (putN n src cell val) (putN n src cell val).mt):=by
 obtain⟨b1,b2⟩:=putBits_bd (src:=src) (cell:=cell) hn.bits hbl
 refine⟨by unfold keepN putN;simp only[putAt_len];exact hn.image,hn.gens,b1,b2,slotPut_S hn.sl _,hn.conn,hn.sync,hn.syn,hn.copies,hn.wait⟩
theorem ev_l10Hear (n:NodeD) (src:Int) (m:MsgD) (hn:nB n) (hbl: ∀x∈n.mt.bits,x.length<=800) (hm:msgOk m=true): ∃fin,(fin=finA n\/fin=finB\/fin=finC n\/fin=finD n)/\semK G PK md 224 [.a (owneds (fN n)),.v (.sc (.int .i64 src)),.a (lents (fMs m))]=some ⟨[.a (owneds (fN (hear0 n src m).1)),.v (.own 7 (enc fP (hear0 n src m).2))],fin,[]⟩:=by
 have hmg:m.gens.length<=12/\(m.kind≠5->m.gens=[])/\(m.kind=1\/m.kind=2\/m.kind=3\/m.kind=4\/m.kind=5):=by
  unfold msgOk at hm
  split at hm
  ·rename_i h5
   simp only[Bool.and_eq_true]at hm
   have:=hm.1.1.1
   unfold gnOk at this
   simp only[Bool.and_eq_true,decide_eq_true_iff]at this
   exact⟨by omega,fun h=>absurd h5 h,by omega⟩
  ·split at hm
   ·rename_i h5 h
    simp only[Bool.and_eq_true,decide_eq_true_iff]at hm
    exact⟨by omega,fun _=>List.eq_nil_of_length_eq_zero hm.1.1.1,by omega⟩
   ·cases hm
 obtain⟨mg,mg0,mk⟩:=hmg
 have e1:=ev_l8Apply (PK:=PK) n src m.cell m.val hn hbl
 have e2:=ev_l8Put (PK:=PK) n src m.cell m.val (by have:=hn.image;omega) hn.mt hn.bits (fun x hx=>by have:=hbl x hx;omega)
 obtain⟨b1,b2⟩:=putBits_bd (src:=src) (cell:=m.cell) hn.bits hbl
 have e3:=ev_l8Keep (PK:=PK) (putN n src m.cell m.val) (putN n src m.cell m.val).mt hn.sl (putN_nB (src:=src) (cell:=m.cell) (val:=m.val) hn hbl).mt
 have e4:=ev_l10Done (PK:=PK) n m hn (by omega)
 have e5:=ev_spec_Known (PK:=PK) n src m.cell m.val hn
 have e6:=ev_spec_Known (PK:=PK) n m.who m.cell m.val hn
 have e7:=ev_spec_Mate (PK:=PK) n.id
 have hk:=knownN_nB (who:=src) (cell:=m.cell) (val:=m.val) hn
 have e8:=ev_Clear (PK:=PK) (knownN n src m.cell m.val).wait m.val (by have:=hk.wait;omega)
 have e9:=ev_l10To (PK:=PK) (ackN n src m) src ⟨3,m.cell,m.val,src,[]⟩ (ackN_nB hn).conn rfl
 simp only[lents,lent,fN,fM,fMs,owneds,owned,kpA,pmsg]at e1 e2 e3 e4 e5 e6 e8 e9
 rcases mk with h|h|h|h|h
 ·refine⟨finA n,.inl rfl,semK_of (pf:=p224) rfl (by simp[p224]) ?_⟩
  unfold hear0 finA ackP
  generalize applyN n src m.cell m.val=q at*
  simp[p224,md,h,mg0 (by omega),e1]
 ·refine⟨finC n,.inr (.inr (.inl rfl)),semK_of (pf:=p224) rfl (by simp[p224]) ?_⟩
  unfold hear0 finC
  unfold ackN at*
  generalize knownN n src m.cell m.val=q at*
  by_cases h1:src=mate n.id
  ·simp only[if_pos h1]at e9 ⊢
   by_cases h2:m.val=0
   ·simp[p224,md,h,mg0 (by omega),e5,e7,e8,eq_true h1,eq_true h2]
   ·simp[p224,md,h,mg0 (by omega),e5,e7,e8,e9,eq_true h1,h2]
  ·simp only[if_neg h1]at e9 ⊢
   by_cases h2:m.val=0
   ·simp[p224,md,h,mg0 (by omega),e5,e7,h1,eq_true h2]
   ·simp[p224,md,h,mg0 (by omega),e5,e7,e9,h1,h2]
 ·by_cases h1:m.who=n.id
  ·refine⟨finB,.inr (.inl rfl),semK_of (pf:=p224) rfl (by simp[p224]) ?_⟩
   unfold hear0 finB
   simp[p224,md,h,mg0 (by omega),eq_true h1]
  ·refine⟨finC n,.inr (.inr (.inl rfl)),semK_of (pf:=p224) rfl (by simp[p224]) ?_⟩
   unfold hear0 finC
   generalize knownN n m.who m.cell m.val=q at*
   simp[p224,md,h,mg0 (by omega),h1,e6]
 ·refine⟨finA n,.inl rfl,semK_of (pf:=p224) rfl (by simp[p224]) ?_⟩
  unfold hear0 finA ackP
  generalize hq2:keepN (putN n src m.cell m.val) (putN n src m.cell m.val).mt=q2 at*
  generalize putN n src m.cell m.val=q at*
  simp[p224,md,h,mg0 (by omega),e2,e3]
 ·refine⟨finD n,.inr (.inr (.inr rfl)),semK_of (pf:=p224) rfl (by simp[p224]) ?_⟩
  unfold hear0 finD
  generalize doneN n m=q at*
  rw[h]at e4
  simp[p224,md,h,e4]
end Go.Proofs.YtbolhfegdocpeaaGreat.Ow
