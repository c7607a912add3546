/- Functions evaluated on the small machine: What is seen of nodes, the code: evaluated, What is wrong with nodes: evaluated, What is wrong with nodes, the code: evaluated. -/
import Derived.Test.YtbolhfegdocpeaaGreatEvHealth0
namespace Go.Proofs.YtbolhfegdocpeaaGreat.Ow
open Go
set_option linter.unusedVariables false
set_option linter.unusedSimpArgs false
set_option maxHeartbeats 4000000
variable {PK:Nat->List Arg->Option Res}
@[simp] def stR32_0 (w:AB) (x:AG) (i:Nat) (out:ByteArray) (W:List ByteArray) (j:Nat):St:={n:=60,m:=0,tm:=[(1,.pb 10000200 0),(3,.sc (.string out)),(4,.sc (.int .i64 i)),(5,.pb 10000201 0),(6,.ref 10000202 []),(13,.im 16 (enc fN w.nodes)),(14,.sc (.int .i64 w.nodes.length)),(15,.sc (.int .i64 i)),(28,.im 16 (enc fN w.nodes)),(29,.sc (.int .i64 w.nodes.length)),(30,.sc (.int .i64 j))],ob:=[(10000200,GO w),(10000201,OI x),(10000202,.arr 1 (enc fS W))]}
@[simp] def stR32_1 (w:AB) (out:ByteArray) (j:Nat):St:={n:=60,m:=0,tm:=[(1,.pb 10000000 0),(3,.sc (.string out)),(13,.im 16 (enc fN w.nodes)),(14,.sc (.int .i64 w.nodes.length)),(15,.sc (.int .i64 j))],ob:=[(10000000,GO w)]}
theorem wl_len (w:AB) (i:Nat): ∀j,(wl w i j).length<=3+2*j
 |0=>Nat.le_refl _
 |j+1=>by
  have:=wl_len w i j;unfold wl;split
  ·omega
  ·simp only[List.length_append,List.length_cons,List.length_nil];omega
theorem lp32_0 (w:AB) (hw:wS w) (hN:Dv w) (i:Nat) (hi:i<3) (A:ByteArray): ∀ (s:St),s.m<=10000200->Ai 10000200 [1,3,4,5,6,13,14,15,28,29,30] s=stR32_0 w (nd w i) i A (wl w i 0) 0->Ag G PK md 10000200 [1,3,4,5,6,13,14,15,28,29,30] b47_0 s=An (AH G PK md) (Ag G PK md) md b47_0 (stR32_0 w (nd w i) i A (wl w i 3) 3):=by
 have h3:=hN.len;refine AL (G:=G) (PK:=PK) (md:=md) (o:=10000200) (live:=[1,3,4,5,6,13,14,15,28,29,30]) (c:=b47_0) (fun j=>stR32_0 w (nd w i) i A (wl w i j) j) (3) (fun j hj=> ?_) (by simp[b47_0,h3]);obtain⟨y,y2,hy,hy',hyd,hym⟩:=Ay w.nodes zN (j:=j) (by omega);have hnj:nd w j=y:=hyd;have hinc:=A2 (n:=3) (j:=j) (by omega) (by omega);have hj3:((j:Nat):Int)<3:=by omega
 by_cases hji:j=i
 ·have hr:wl w i (j+1)=wl w i j:=by rw[wl,if_pos hji]
  simp only[hr];generalize wl w i j=W;subst hji;simp[b47_0,md,h3,hj,hj3,hinc,hy',y2]
 ·have hji': ¬ ((j:Nat):Int)=i:=by omega
  have hwl:=wl_len w i j;have hr:wl w i (j+1)=wl w i j++[linkText (nd w i) (nd w j),dg (bl (nd w i) j)]:=by rw[wl,if_neg hji]
  simp only[hr];have hlW:(wl w i j).length+2<=1000:=by omega
  generalize wl w i j=W at hlW ⊢;have nx:=hN.ok i hi;have hxm:nd w i∈w.nodes:=by
   obtain⟨x,_,_,_,hxd,hxm⟩:=Ay w.nodes zN (j:=i) (by omega);unfold nd;rw[hxd];exact hxm
  rw[hnj];generalize nd w i=x at nx hxm ⊢;obtain⟨b,z1,hb,hb',hbd,hbm⟩:=Ay x.mt.bits [] (j:=j) (by rw[nx.bits.1];omega);have hbl:bl x j=b.length:=by unfold bl;rw[hbd]
  have h8:=nx.bits.2 b hbm;rw[hbl];have e1:=ev_impl_LinkText (PK:=PK) x y (hw.node x hxm) (hw.node y hym);have e2:=ev_impl_Digits (PK:=PK) b.length (by omega);simp only[AJ,lent,fN]at e1;have g1:(W.length+2)*16<=35184372088832:=by omega
  simp[b47_0,md,h3,hj,hj3,hinc,hji',hy',y2,z1,hb',e1,e2,encS2,g1]
theorem ev_impl_Report (hJ: ∀xs:List ByteArray,xs.length<=1000->(joinTx xs sp).size<=1000000->AH G PK md 86 [.v (.im 1 (enc fS xs))]=some ⟨[.v (.sc (.string (joinTx xs sp)))],[],[]⟩) (w:AB) (hw:wS w):AH G PK md 47 [.a (AJ (fWo w))]=some ⟨[.v (.sc (.string (report w)))],[],[]⟩:=by
 refine AA (pf:=p47) rfl (by simp[p47]) ?_;have e:=S6 (PK:=PK) w hw;simp only[AJ,lent,fWo]at e;unfold report
 cases hok:BV w
 ·rw[hok]at e;simp[p47,md,e]
 ·rw[hok]at e;have hN:=Ha hok;have h3:=hN.len;have hsz:=AL (G:=G) (PK:=PK) (md:=md) (o:=10000000) (live:=[1,3,13,14,15]) (c:=b47_1) (fun j=>stR32_1 w (repT w j) j) (3) (fun j hj=>by
   obtain⟨x,y1,hx,hx',hxd,hxm⟩:=Ay w.nodes zN (j:=j) (by omega);have hnj:nd w j=x:=hxd;have hinc:=A2 (n:=3) (j:=j) (by omega) (by omega);have hj3:((j:Nat):Int)<3:=by omega
   have hrs:=rep_size w j;have hsuc:repT w (j+1)=repT w j++(rowB w j 3++nl):=rfl;simp only[hsuc];have hrs2:(repT w j).size<=200:=by omega
   generalize repT w j=out at hrs2 ⊢;have hin:=lp32_0 (PK:=PK) w hw hN j hj out;have hw3:=wl_len w j 3;have hr3:=rowB_size w j 3;have e4:=hJ (wl w j 3) (by omega) (by unfold rowB at hr3;omega);unfold rowB at hr3 ⊢;have hw0:wl w j 0=[dg j,roleText x,diskText x]:=by rw[wl,hnj]
   rw[hw0,hnj]at hin;generalize wl w j 3=W3 at hin e4 hr3 ⊢;generalize joinTx W3 sp=J at e4 hr3 ⊢;have e1:=ev_impl_Digits (PK:=PK) j (by omega);have e2:=ev_impl_RoleText (PK:=PK) x;have e3:=ev_impl_DiskText (PK:=PK) x;simp only[AJ,lent,fN]at e2 e3;have g1:J.size+1<=9223372036854775807:=by omega
   have g2:out.size+(J.size+1)<=9223372036854775807:=by omega
   simp[b47_1,md,h3,hj,hj3,hx',y1,e1,e2,e3];rw[hin]
   ·simp[b47_0,md,h3,hj,hj3,hx',y1,e4,nl_eq,ByteArray.size_append,g1,g2,hinc]
   ·simp
   ·simp[h3]) (by simp[b47_1,h3])
  simp[p47,md,e];rw[hsz]
  ·simp[b47_1,h3]
  ·simp
  ·simp[repT,h3]
def hears (n:AG):Bool:=n.conn.any id
def npr (w:AB) (j:Nat):Bool:= !(nd w j).prime
def firstL (w:AB):Int:=if Af (npr w) w.nodes.length then -1 else(nd w (Em (npr w) w.nodes.length).toNat).mt.last
def wc (w:AB) (n:AG):Nat:=if n.up then(if n.mt.fine then(if n.mt.old then 3 else if hears n then(if decide (0<=firstL w)&& !decide (n.mt.last=firstL w)then 5 else 0)else 4)else 2)else 1
def wordOf:Nat->ByteArray
 |1=>⟨#[100,111,119,110]⟩
 |2=>⟨#[116,111,114,110]⟩
 |3=>⟨#[111,108,100]⟩
 |4=>⟨#[97,112,97,114,116]⟩
 |5=>⟨#[98,101,104,105,110,100]⟩
 |_=>⟨#[]⟩
theorem wc_le (w:AB) (n:AG):wc w n<=5:=by unfold wc;repeat (first|split|omega)
theorem word_ne: ∀c,c<=5->(wordOf c).toList.isEmpty=decide (c=0):=by
 intro c hc;rw[ByteArray.toList_eq];rcases(by omega:c=0\/c=1\/c=2\/c=3\/c=4\/c=5)with rfl|rfl|rfl|rfl|rfl|rfl<;>rfl
theorem word_size: ∀c,c<=5->(wordOf c).size<=6:=by
 intro c hc;rcases(by omega:c=0\/c=1\/c=2\/c=3\/c=4\/c=5)with rfl|rfl|rfl|rfl|rfl|rfl<;>decide
@[simp] def st123 (w:AB) (j:Nat):St:={n:=24,m:=0,tm:=[(1,.pb 10000000 0),(3,.sc (.int .i64 j))],ob:=[(10000000,GO w)]}
theorem ev_l26First (w:AB) (hw:wS w):AH G PK md 123 [.a (AJ (fWo w))]=some ⟨[.v (.sc (.int .i64 (firstL w)))],[],[]⟩:=by
 refine AA (pf:=p123) rfl (by simp[p123]) ?_;obtain⟨bad,hb,hsz⟩:=ER (G:=G) (PK:=PK) (md:=md) (o:=10000000) (live:=[1,3]) (c:=b123_0) (st123 w) (npr w) (w.nodes.length) (fun k s=>s.m=0/\At s.tm 2= .sc (.int .i64 (nd w k).mt.last)) (fun j hj=>by
  obtain⟨x,y1,hx,hx',hxd,hxm⟩:=Ay w.nodes zN hj;have hinc:=A2 hj hw.nodes;unfold npr nd;rw[hxd]
  cases hp:x.prime<;>simp[b123_0,md,hj,hx',hinc,hp]) (by simp[b123_0])
 unfold firstL
 cases hp:Af (npr w) w.nodes.length
 ·obtain⟨k,hk,h1,h2,hm,ht⟩:=hb hp;rw[Bq hk h1 h2];simp only[hp]at hsz;simp[p123,md];rw[hsz]
  ·simp[hm,ht]
  ·simp
  ·simp
 ·simp only[hp]at hsz;simp[p123,md];rw[hsz]
  ·simp[b123_0]
  ·simp
  ·simp
theorem any_take (l:List Bool) {j:Nat} {x:Bool} (h:l[j]? =some x):(l.take (j+1)).any id=((l.take j).any id||x):=by
 rw[List.take_add_one,h];simp
@[simp] def st87 (w:AB) (n:AG) (b:Bool) (j:Nat):St:={n:=51,m:=0,tm:=[(2,.pb 10000000 0),(3,.pb 10000001 0),(5,.sc (.bool b)),(6,.sc (.int .i64 j))],ob:=[(10000000,GO w),(10000001,OI n)]}
theorem ev_l26Word (w:AB) (n:AG) (hw:wS w) (hn:nS n):AH G PK md 87 [.a (AJ (fWo w)),.a (AJ (fN n))]=some ⟨[.v (.sc (.string (wordOf (wc w n))))],[],[]⟩:=by
 refine AA (pf:=p87) rfl (by simp[p87]) ?_;have e:=ev_l26First (PK:=PK) w hw;simp only[AJ,lent,fWo]at e;have hsz:=AL (G:=G) (PK:=PK) (md:=md) (o:=10000000) (live:=[2,3,5,6]) (c:=b87_0) (fun j=>st87 w n ((n.conn.take j).any id) j) (n.conn.length) (fun j hj=>by
  obtain⟨x,y1,hx,hx',_,_⟩:=Ay n.conn false hj;have hinc:=A2 hj hn.conn;simp only[any_take n.conn hx]
  cases (n.conn.take j).any id<;>simp[b87_0,hj,hx',hinc]) (by simp[b87_0])
 have hfull:(n.conn.take n.conn.length).any id=hears n:=by rw[List.take_length];rfl
 simp only[hfull]at hsz;unfold wc;generalize firstL w=f at e ⊢;simp[p87,md];rw[hsz]
 ·cases h1:n.up
  ·simp[b87_0,md,e,h1,wordOf]
  cases h2:n.mt.fine
  ·simp[b87_0,md,e,h1,h2,wordOf]
  cases h3:n.mt.old
  ·cases h4:hears n
   ·simp[b87_0,md,e,h1,h2,h3,wordOf]
   ·by_cases h5:0<=f
    ·by_cases h6:n.mt.last=f
     ·simp[b87_0,md,e,h1,h2,h3,h5,h6,wordOf]
     ·simp[b87_0,md,e,h1,h2,h3,h5,h6,wordOf]
    ·simp[b87_0,md,e,h1,h2,h3,h5,wordOf]
  ·simp[b87_0,md,e,h1,h2,h3,wordOf]
 ·simp
 ·simp
def trb (w:AB):Nat->List ByteArray
 |0=>[]
 |j+1=>if wc w (nd w j)=0 then trb w j else trb w j++[dg j++sp++wordOf (wc w (nd w j))]
theorem trb_len (w:AB): ∀j,(trb w j).length<=j
 |0=>Nat.le_refl _
 |j+1=>by
  have:=trb_len w j;unfold trb;split
  ·omega
  ·simp only[List.length_append,List.length_cons,List.length_nil];omega
def trouble (w:AB):List ByteArray:=if BV w then trb w 3 else []
@[simp] def st40 (w:AB) (W:List ByteArray) (j:Nat):St:={n:=36,m:=0,tm:=[(1,.pb 10000000 0),(3,.ref 10000001 []),(4,.sc (.int .i64 j))],ob:=[(10000000,GO w),(10000001,.arr 1 (enc fS W))]}
theorem ev_spec_Trouble (w:AB) (hw:wS w):AH G PK md 40 [.a (AJ (fWo w))]=some ⟨[.v (.own 1 (enc fS (trouble w)))],[],[]⟩:=by
 refine AA (pf:=p40) rfl (by simp[p40]) ?_;have e:=GC (PK:=PK) w hw;simp only[AJ,lent,fWo]at e;unfold trouble
 cases hok:BV w
 ·rw[hok]at e;have hsz:=AL (G:=G) (PK:=PK) (md:=md) (o:=10000000) (live:=[1,3,4]) (c:=b40_0) (st40 w []) (0) (fun j hj=>absurd hj (by omega)) (by by_cases h0:0<w.nodes.length<;>simp[b40_0,md,e,h0]);simp[p40,md];rw[hsz]
  ·by_cases h0:0<w.nodes.length<;>simp[b40_0,md,e,h0]
  ·simp
  ·simp
 ·rw[hok]at e;have hN:=Ha hok;have h3:=hN.len;have hsz:=AL (G:=G) (PK:=PK) (md:=md) (o:=10000000) (live:=[1,3,4]) (c:=b40_0) (fun j=>st40 w (trb w j) j) (3) (fun j hj=>by
   obtain⟨x,y1,hx,hx',hxd,hxm⟩:=Ay w.nodes zN (j:=j) (by omega);have hnj:nd w j=x:=hxd;have hinc:=A2 (n:=3) (j:=j) (by omega) (by omega);have hj3:((j:Nat):Int)<3:=by omega
   have e2:=ev_l26Word (PK:=PK) w x hw (hw.node x hxm);simp only[AJ,lent,fWo,fN]at e2;have hc5:=wc_le w x;have hne:=word_ne _ hc5;have hws:=word_size _ hc5;have htl:=trb_len w j;have hsuc:trb w (j+1)=if wc w x=0 then trb w j else trb w j++[dg j++sp++wordOf (wc w x)]:=by rw[trb,hnj]
   simp only[hsuc];generalize trb w j=W at htl ⊢;generalize wc w x=c at e2 hne hws ⊢;by_cases hc0:c=0
   ·rw[decide_eq_true hc0]at hne;have hne2:=List.isEmpty_iff.1 hne;simp[b40_0,md,h3,hj,hj3,e,hx',y1,e2,hne,hne2,eq_true hc0,hinc]
   ·rw[decide_eq_false hc0]at hne;have hne2: ¬ (wordOf c).toList=[]:=fun h=>by rw[h]at hne;cases hne
    have e3:=ev_spec_Digits (PK:=PK) j (by omega);have g1:2+(wordOf c).size<=9223372036854775807:=by omega
    have g2:(W.length+1)*16<=35184372088832:=by omega
    simp[b40_0,md,h3,hj,hj3,e,hx',y1,e2,hne,hne2,hc0,hinc,e3,sp_eq,ByteArray.size_append,g1,encS1,g2]) (by simp[b40_0,h3])
  simp[p40,md];rw[hsz]
  ·simp[b40_0,h3]
  ·simp
  ·simp[trb]
def prs (w:AB) (j:Nat):List Int:=((List.range j).filter (fun i=>(nd w i).prime)).map fun(i:Nat)=>(i:Int)
theorem prs_succ (w:AB) (j:Nat):prs w (j+1)=if(nd w j).prime then prs w j++[(j:Int)]else prs w j:=by
 unfold prs;rw[List.range_succ,List.filter_append,List.map_append];split
 ·rename_i h;simp[h]
 ·rename_i h;simp[h]
theorem prs_none {w:AB}: ∀ {k:Nat},(∀j,j<k->npr w j=true)->prs w k=[]
 |0,_=>rfl
 |k+1,h=>by
  have h1:=h k (by omega);unfold npr at h1;simp at h1;rw[prs_succ,h1,prs_none fun j hj=>h j (by omega)];rfl
theorem prs_some {w:AB} {k:Nat} (h: ∀j,j<k->npr w j=true) (hk:npr w k=false): ∀d,∃l,prs w (k+1+d)=(k:Int)::l
 |0=>by
  unfold npr at hk;simp at hk;exact⟨[],by rw[Nat.add_zero,prs_succ,hk,prs_none h];rfl⟩
 |d+1=>by
  obtain⟨l,hl⟩:=prs_some h hk d;rw[←Nat.add_assoc,prs_succ,hl];split
  ·exact⟨l++[((k+1+d:Nat):Int)],rfl⟩
  ·exact⟨l,rfl⟩
theorem prs_len (w:AB): ∀j,(prs w j).length<=j
 |0=>Nat.le_refl _
 |j+1=>by
  have:=prs_len w j;rw[prs_succ];split
  ·simp only[List.length_append,List.length_cons,List.length_nil];omega
  ·omega
@[simp] def st120 (w:AB) (l:List Int) (j:Nat):St:={n:=23,m:=0,tm:=[(3,.ref 10000000 []),(8,.im 16 (enc fN w.nodes)),(9,.sc (.int .i64 w.nodes.length)),(10,.sc (.int .i64 j))],ob:=[(10000000,.arr 1 (enc fI l))]}
theorem encI1 (l:List Int) (n:Int):enc fI l++[[T.sc (.int .i64 n)]]=enc fI (l++[n]):=by simp[enc]
theorem ev_primes (w:AB) (hw:wS w):AH G PK md 120 [.a (AJ (fWo w))]=some ⟨[.v (.own 1 (enc fI (prs w w.nodes.length)))],[],[]⟩:=by
 refine AA (pf:=p120) rfl (by simp[p120]) ?_;have hsz:=AL (G:=G) (PK:=PK) (md:=md) (o:=10000000) (live:=[3,8,9,10]) (c:=b120_0) (fun j=>st120 w (prs w j) j) (w.nodes.length) (fun j hj=>by
  obtain⟨x,y1,hx,hx',hxd,hxm⟩:=Ay w.nodes zN hj;have hnj:nd w j=x:=hxd;have hinc:=A2 hj hw.nodes;have hpl:=prs_len w j;have hwn:=hw.nodes;simp only[prs_succ,hnj];generalize prs w j=l at hpl ⊢;have g1:(l.length+1)*8<=35184372088832:=by omega
  cases hp:x.prime<;>simp[b120_0,md,hj,hx',hinc,hp,encI1,g1]) (by simp[b120_0])
 simp[p120,md];rw[hsz]
 ·simp[b120_0]
 ·simp
 ·simp[prs]
@[simp] def st159 (l:List Bool) (b:Bool) (j:Nat):St:={n:=19,m:=0,tm:=[(0,.im 1 (enc fL l)),(1,.sc (.bool b)),(7,.sc (.int .i64 l.length)),(8,.sc (.int .i64 j))],ob:=[]}
theorem ev_IndexB (l:List Bool) (hl:l.length<=1048576):AH G PK md 159 [.v (.im 1 (enc fL l)),.v (.sc (.bool true))]=some ⟨[.v (.sc (.int .i64 (Em (fun j=> !l.getD j false) l.length)))],[],[]⟩:=by
 refine AA (pf:=p159) rfl (by simp[p159]) ?_;obtain⟨bad,hb,hsz⟩:=ER (G:=G) (PK:=PK) (md:=md) (o:=10000000) (live:=[0,1,7,8]) (c:=b159_0) (st159 l true) (fun j=> !l.getD j false) (l.length) (fun k s=>s.m=0/\At s.tm 4= .sc (.int .i64 k)) (fun j hj=>by
  obtain⟨x,y1,hx,hx',hxd,_⟩:=Ay l false hj;have hinc:=A2 hj hl;simp only[hxd]
  cases x<;>simp[b159_0,md,hj,hx',hinc]) (by simp[b159_0])
 cases hp:Af (fun j=> !l.getD j false) l.length
 ·obtain⟨k,hk,h1,h2,hm,ht⟩:=hb hp;rw[Bq hk h1 h2];simp only[hp]at hsz;simp[p159,md];rw[hsz]
  ·simp[hm,ht]
  ·simp
  ·simp
 ·rw[CP (fun j hj=>Ar hp hj)];simp only[hp]at hsz;simp[p159,md];rw[hsz]
  ·simp[b159_0]
  ·simp
  ·simp
theorem ev_ContainsB (l:List Bool) (hl:l.length<=1048576):AH G PK md 121 [.v (.im 1 (enc fL l)),.v (.sc (.bool true))]=some ⟨[.v (.sc (.bool (l.any id)))],[],[]⟩:=by
 refine AA (pf:=p121) rfl (by simp[p121]) ?_;have e:=ev_IndexB (PK:=PK) l hl;have h:=Fc (fun b:Bool=>b) l false;rw[show l.any (fun b=>b)=l.any id from rfl]at h;simp[p121,md,e];simpa using h
theorem ev_trouble (w:AB) (n:AG) (hw:wS w) (hn:nS n) (hN:Dv w):AH G PK md 85 [.a (AJ (fWo w)),.a (AJ (fN n))]=some ⟨[.v (.sc (.string (wordOf (wc w n))))],[],[]⟩:=by
 refine AA (pf:=p85) rfl (by simp[p85]) ?_;have e:=ev_primes (PK:=PK) w hw;have e2:=ev_ContainsB (PK:=PK) n.conn hn.conn;rw[show n.conn.any id=hears n from rfl]at e2;simp only[AJ,lent,fWo]at e;unfold wc firstL
 cases h1:n.up
 ·simp[p85,md,e,h1,wordOf]
 cases h2:n.mt.fine
 ·simp[p85,md,e,h1,h2,wordOf]
 cases h3:n.mt.old
 case true=>simp[p85,md,e,h1,h2,h3,wordOf]
 cases h4:hears n
 ·rw[h4]at e2;simp[p85,md,e,e2,h1,h2,h3,wordOf]
 rw[h4]at e2;obtain⟨k,hk,hp,hkn⟩:=first (fun j=>npr w j=true) w.nodes.length;rcases hkn with rfl|⟨hlt,hnk⟩
 ·rw[prs_none hp]at e;rw[BJ hp];simp[p85,md,e,e2,h1,h2,h3,wordOf]
 ·have hnk':npr w k=false:=by simpa using hnk
  obtain⟨l,hl⟩:=prs_some hp hnk' (w.nodes.length - (k+1));rw[show k+1+(w.nodes.length - (k+1))=w.nodes.length by omega]at hl;rw[hl]at e;rw[B3 hlt hnk',Bq hlt hp hnk',Int.toNat_natCast];obtain⟨x,y1,hx,hx',hxd,hxm⟩:=Ay w.nodes zN hlt;have hnk2:nd w k=x:=hxd;have hl3:=hN.len;have nx:=hN.ok k (by omega);rw[hnk2]at nx ⊢;have h0:0<=x.mt.last:=by
   have:=nx.mt;unfold BP at this;simp only[Bool.and_eq_true]at this;exact(Ab.1 this.1.2).1
  by_cases h6:n.mt.last=x.mt.last
  ·simp[p85,md,e,e2,h1,h2,h3,wordOf,hlt,hx',h0,h6]
  ·have h7: ¬x.mt.last=n.mt.last:=fun h=>h6 h.symm
   simp[p85,md,e,e2,h1,h2,h3,wordOf,hlt,hx',h0,h6,h7]
@[simp] def st39 (w:AB) (W:List ByteArray) (j:Nat):St:={n:=35,m:=0,tm:=[(1,.pb 10000000 0),(3,.ref 10000001 []),(13,.im 16 (enc fN w.nodes)),(14,.sc (.int .i64 w.nodes.length)),(15,.sc (.int .i64 j))],ob:=[(10000000,GO w),(10000001,.arr 1 (enc fS W))]}
theorem ev_impl_Trouble (hJ: ∀xs:List ByteArray,xs.length<=1000->(joinTx xs sp).size<=1000000->AH G PK md 86 [.v (.im 1 (enc fS xs))]=some ⟨[.v (.sc (.string (joinTx xs sp)))],[],[]⟩) (w:AB) (hw:wS w):AH G PK md 39 [.a (AJ (fWo w))]=some ⟨[.v (.own 1 (enc fS (trouble w)))],[],[]⟩:=by
 refine AA (pf:=p39) rfl (by simp[p39]) ?_;have e:=S6 (PK:=PK) w hw;simp only[AJ,lent,fWo]at e;unfold trouble
 cases hok:BV w
 ·rw[hok]at e;simp[p39,md,e]
 ·rw[hok]at e;have hN:=Ha hok;have h3:=hN.len;have hsz:=AL (G:=G) (PK:=PK) (md:=md) (o:=10000000) (live:=[1,3,13,14,15]) (c:=b39_0) (fun j=>st39 w (trb w j) j) (3) (fun j hj=>by
   obtain⟨x,y1,hx,hx',hxd,hxm⟩:=Ay w.nodes zN (j:=j) (by omega);have hnj:nd w j=x:=hxd;have hinc:=A2 (n:=3) (j:=j) (by omega) (by omega);have hj3:((j:Nat):Int)<3:=by omega
   have e2:=ev_trouble (PK:=PK) w x hw (hw.node x hxm) hN;simp only[AJ,lent,fWo,fN]at e2;have hc5:=wc_le w x;have hne:=word_ne _ hc5;have hws:=word_size _ hc5;have htl:=trb_len w j;have hsuc:trb w (j+1)=if wc w x=0 then trb w j else trb w j++[dg j++sp++wordOf (wc w x)]:=by rw[trb,hnj]
   simp only[hsuc];generalize trb w j=W at htl ⊢;generalize wc w x=c at e2 hne hws ⊢;by_cases hc0:c=0
   ·rw[decide_eq_true hc0]at hne;have hne2:=List.isEmpty_iff.1 hne;simp[b39_0,md,h3,hj,hj3,hx',y1,e2,hne,hne2,eq_true hc0,hinc]
   ·rw[decide_eq_false hc0]at hne;have hne2: ¬ (wordOf c).toList=[]:=fun h=>by rw[h]at hne;cases hne
    have e3:=ev_impl_Digits (PK:=PK) j (by omega);have e4:=hJ [dg j,wordOf c] (by simp) (by rw[joinTx_two];simp only[ByteArray.size_append,dg_size,sp_size];omega);rw[joinTx_two]at e4;have g2:(W.length+1)*16<=35184372088832:=by omega
    simp only[BZ,BK,fS]at e4;simp[b39_0,md,h3,hj,hj3,hx',y1,e2,hne,hne2,hc0,hinc,e3,e4,encS1,g2]) (by simp[b39_0,h3])
  simp[p39,md,e];rw[hsz]
  ·simp[b39_0,h3]
  ·simp
  ·simp[trb,h3]
end Go.Proofs.YtbolhfegdocpeaaGreat.Ow
