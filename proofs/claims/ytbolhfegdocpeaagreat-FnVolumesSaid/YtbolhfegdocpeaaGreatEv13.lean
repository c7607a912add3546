/- Functions evaluated on the small machine: Writing and copying: what the reference makes of a node, and what goes out, Runs, squeezing, spreading: what the reference makes. -/
import Derived.Test.YtbolhfegdocpeaaGreatEv12
import Derived.Test.YtbolhfegdocpeaaGreatEv0
namespace Go.Proofs.YtbolhfegdocpeaaGreat.Ow
open Go
set_option linter.unusedVariables false
set_option linter.unusedSimpArgs false
set_option maxHeartbeats 8000000
variable {PK:Nat->List Arg->Option Res}
def writeB (n:NodeD) (cell val:Int):NodeD:=if n.conn.getD (mate n.id).toNat false then {applyN n n.id cell val with wait:=clr n.wait val++[val]} else applyN n n.id cell val
def writeN (n:NodeD) (cell val:Int):NodeD×List PostD:=if nodeOk n&&n.prime&&inB cell 0 7&&decide (1<=val)&&nodeOk (writeB n cell val)then(writeB n cell val,tos (writeB n cell val) n.id ⟨1,cell,val,0,[]⟩)else(n,[])
theorem mate_nat {n:NodeD} (h:NOk n) (hp:n.prime=true): ∃k:Nat,k<2/\mate n.id=(k:Int):=by
 have h3:=h.prime hp
 have h4:n.id=0\/n.id=1:=by have:=h.id0;have:=h.id2;omega
 rcases h4 with h4|h4
 ·exact⟨1,by omega,by rw[h4];rfl⟩
 ·exact⟨0,by omega,by rw[h4];rfl⟩
theorem writeB_nB {n:NodeD} {cell val:Int} (hn:nB n) (hbl: ∀x∈n.mt.bits,x.length<=800) (hw:n.wait.length<=900):nB (writeB n cell val):=by
 have h:=applyN_nB (src:=n.id) (cell:=cell) (val:=val) hn hbl
 unfold writeB
 split
 ·exact⟨h.image,h.gens,h.bits,h.bit,h.sl,h.conn,h.sync,h.syn,h.copies,by have:=clr_len n.wait val;simp only[List.length_append,List.length_cons,List.length_nil];omega⟩
 ·exact h
theorem ev_spec_Write (n:NodeD) (cell val:Int) (hn:nB n) (hbl: ∀x∈n.mt.bits,x.length<=800) (hw:n.wait.length<=900):semK G PK md 205 [.a (lents (fN n)),.v (.sc (.int .i64 cell)),.v (.sc (.int .i64 val))]=some ⟨[.a (owneds (fN (writeN n cell val).1)),.v (.own 7 (enc fP (writeN n cell val).2))],[],[]⟩:=by
 refine semK_of (pf:=p205) rfl (by simp[p205]) ?_
 have e1:=ev_spec_NodeOk (PK:=PK) n hn.nS
 have e3:=ev_l1In (PK:=PK) cell 0 7
 have e4:=ev_l8Copy (PK:=PK) n hn.nS
 simp only[lents,lent,fN,owneds,owned]at e1 e4
 unfold writeN
 cases h1:nodeOk n
 ·simp[p205,md,e1,e4,h1]
 have nn:=nodeOk_of h1
 cases h2:n.prime
 ·rw[h2]at e1 e4
  simp[p205,md,e1,e4,h1,h2]
 cases h3:inB cell 0 7
 ·rw[h2]at e1 e4
  simp[p205,md,e1,e3,e4,h1,h2,h3]
 by_cases h4:1<=val
 case neg=>
  rw[h2]at e1 e4
  simp[p205,md,e1,e3,e4,h1,h2,h3,h4,show val<1 by omega]
 obtain⟨k,k2,hk⟩:=mate_nat nn h2
 obtain⟨c,q1,hc,hc',hcd⟩:=getB_ex n.conn (j:=k) (by have:=hn.conn;omega)
 have hB:=writeB_nB (cell:=cell) (val:=val) hn hbl hw
 have e5:=ev_l8Apply (PK:=PK) n n.id cell val hn hbl
 have e6:=ev_spec_Mate (PK:=PK) n.id
 have e7:=ev_Clear (PK:=PK) n.wait val (by omega)
 have e8:=ev_spec_NodeOk (PK:=PK) (writeB n cell val) hB.nS
 have e9:=ev_l10To (PK:=PK) (writeB n cell val) n.id ⟨1,cell,val,0,[]⟩ hB.conn rfl
 have hcl:=clr_len n.wait val
 have haw:(applyN n n.id cell val).wait=n.wait:=rfl
 rw[hk]at e6
 simp only[lents,lent,fN,owneds,owned,pmsg]at e5 e8 e9
 unfold writeB at*
 rw[hk]at e8 e9 ⊢
 simp only[Int.toNat_natCast,hcd]at e8 e9 ⊢
 rw[h2]at e1 e4 e5
 generalize applyN n n.id cell val=q at*
 have hvl: ¬val<1:=by omega
 have g1:(clr n.wait val).length+1<=4398046511104:=by omega
 have g2:((clr n.wait val).length+1)*8<=35184372088832:=by omega
 have hen:enc fI (clr n.wait val)++[[T.sc (.int .i64 val)]]=enc fI (clr n.wait val++[val]):=by simp[enc]
 cases c
 ·simp only[Bool.false_eq_true,if_false]at e8 e9 ⊢
  cases h5:nodeOk q
  ·rw[h5]at e8
   simp (config:={maxSteps:=10000000}) [p205,md,e1,e3,e4,e5,e6,e8,h1,h2,h3,h4,hvl,q1,hc',Alike2]
  ·rw[h5]at e8
   simp (config:={maxSteps:=10000000}) [p205,md,e1,e3,e4,e5,e6,e8,e9,h1,h2,h3,h4,hvl,q1,hc',Alike2]
 ·simp only[if_true]at e8 e9 ⊢
  rw[haw]at*
  cases h5:nodeOk {q with wait:=clr n.wait val++[val]}
  ·rw[h5]at e8
   simp (config:={maxSteps:=10000000}) [p205,md,e1,e3,e4,e5,e6,e7,e8,haw,h1,h2,h3,h4,hvl,q1,hc',g1,g2,hen,Alike2]
  ·rw[h5]at e8
   simp (config:={maxSteps:=10000000}) [p205,md,e1,e3,e4,e5,e6,e7,e8,e9,haw,h1,h2,h3,h4,hvl,q1,hc',g1,g2,hen,Alike2]
def copyM (n:NodeD) (to:Int):MetaD:={n.mt with held:=n.mt.held&&decide (to≠mate n.id)}
def copyB (n:NodeD) (to:Int):NodeD:=keepN {n with copies:=n.copies.set to.toNat false} (copyM n to)
def copyN (n:NodeD) (to:Int):NodeD×List PostD:=
 if nodeOk n&&inB to 0 2&&n.copies.getD to.toNat false then
  (if 0<(n.sync.getD to.toNat []).length then
   ({n with sync:=n.sync.set to.toNat (clr (n.sync.getD to.toNat []) ((n.sync.getD to.toNat []).getD 0 0))},[⟨n.id,to,⟨4,(n.sync.getD to.toNat []).getD 0 0,n.image.getD ((n.sync.getD to.toNat []).getD 0 0).toNat 0,0,[]⟩⟩])
  else if nodeOk (copyB n to)then(copyB n to,[⟨n.id,to,⟨5,0,n.mt.last,0,n.mt.gens⟩⟩])else(n,[]))
 else(n,[])
theorem ev_spec_Copy (n:NodeD) (to:Int) (hn:nB n):semK G PK md 231 [.a (lents (fN n)),.v (.sc (.int .i64 to))]=some ⟨[.a (owneds (fN (copyN n to).1)),.v (.own 7 (enc fP (copyN n to).2))],[],[]⟩:=by
 refine semK_of (pf:=p231) rfl (by simp[p231]) ?_
 have e1:=ev_spec_NodeOk (PK:=PK) n hn.nS
 have e2:=ev_l8Copy (PK:=PK) n hn.nS
 have e3:=ev_l1In (PK:=PK) to 0 2
 simp only[lents,lent,fN,owneds,owned]at e1 e2
 unfold copyN
 cases h1:nodeOk n
 ·simp[p231,md,e1,e2,h1]
 have nn:=nodeOk_of h1
 cases h3:inB to 0 2
 ·simp[p231,md,e1,e2,e3,h1,h3]
 have r3:=inB_iff.1 h3
 obtain⟨k,rfl⟩: ∃k:Nat,to=(k:Int):=⟨to.toNat,by omega⟩
 obtain⟨c,q1,hc,hc',hcd⟩:=getB_ex n.copies (j:=k) (by have:=hn.copies;omega)
 simp only[Int.toNat_natCast,hcd]
 cases c
 ·simp[p231,md,e1,e2,e3,h1,h3,q1,hc']
 obtain⟨l,q2,hl,hl',hld,hlm⟩:=getDD_ex n.sync (j:=k) (by have:=hn.sync;omega)
 rw[hld]
 by_cases h4:0<l.length
 ·obtain⟨v,q3,hv,hv',hvd⟩:=getD_ex l h4
  have hm:=mk_bd (nn.syn8 l hlm) v (by rw[←hv'];exact List.getElem_mem _)
  have hm7:v<=7:=by
   have:=nn.syn8 l hlm
   unfold mkOk at this
   have:=allB_get this h4
   unfold mkP at this
   rw[hvd]at this
   simp only[Bool.and_eq_true]at this
   exact(inB_iff.1 this.1).2
  rw[hvd]
  obtain⟨j,rfl⟩: ∃j:Nat,v=(j:Int):=⟨v.toNat,by omega⟩
  have h8:=imgOk_len nn.img
  obtain⟨u,q4,hu,hu',hud⟩:=getD_ex n.image (j:=j) (by omega)
  simp only[Int.toNat_natCast,hud]
  have e5:=ev_Clear (PK:=PK) l (j:Int) (by have:=mk_len (nn.syn8 l hlm);omega)
  have s1:=enc_set fII n.sync k (clr l (j:Int))
  simp at s1
  simp (config:={maxSteps:=10000000}) [p231,md,e1,e2,e3,e5,h1,h3,h4,q1,hc',q2,hl',q3,hv',q4,hu',s1,Alike2]
 ·have e4:=ev_l5Copy (PK:=PK) n.mt hn.mt
  have e5:=ev_l8Keep (PK:=PK) {n with copies:=n.copies.set k false} (copyM n (k:Int)) hn.sl hn.mt
  have hB:nB (copyB n (k:Int)):=⟨hn.image,hn.gens,hn.bits,hn.bit,slotPut_S hn.sl _,hn.conn,hn.sync,hn.syn,by unfold copyB keepN;simp only[List.length_set];exact hn.copies,hn.wait⟩
  have e6:=ev_spec_NodeOk (PK:=PK) (copyB n (k:Int)) hB.nS
  have e7:=ev_spec_Mate (PK:=PK) n.id
  have s1:=enc_set fL n.copies k false
  simp at s1
  rw[show keepN {n with copies:=n.copies.set k false} (copyM n (k:Int))=copyB n (k:Int)from rfl]at e5
  generalize copyB n (k:Int)=q at*
  unfold copyM at e5
  simp only[lents,lent,fN,fM,owneds,owned,kpA]at e4 e5 e6
  have gl:=nn.gens12
  have g1:n.mt.gens.length<=4398046511104:=by omega
  have g2:n.mt.gens.length*8<=35184372088832:=by omega
  cases hh:n.mt.held
  ·rw[hh]at e1 e2 e4 e5
   simp only[Bool.false_and]at e5
   cases h5:nodeOk q
   ·rw[h5]at e6
    simp (config:={maxSteps:=10000000}) [p231,md,e1,e2,e3,e4,e5,e6,h1,h3,h4,q1,hc',q2,hl',s1,hh,Alike2]
   ·rw[h5]at e6
    simp (config:={maxSteps:=10000000}) [p231,md,e1,e2,e3,e4,e5,e6,h1,h3,h4,q1,hc',q2,hl',s1,hh,g1,g2,Alike2]
  ·rw[hh]at e1 e2 e4 e5
   simp only[Bool.true_and]at e5
   by_cases hm:(k:Int)=mate n.id
   ·have hd:decide ((k:Int)≠mate n.id)=false:=by simp[hm]
    have hbn:((k:Int) != mate n.id)=false:=by simp[hm]
    rw[hd]at e5
    cases h5:nodeOk q
    ·rw[h5]at e6
     simp (config:={maxSteps:=10000000}) [p231,md,e1,e2,e3,e4,e5,e6,e7,h1,h3,h4,q1,hc',q2,hl',s1,hh,eq_true hm,hbn,Alike2]
    ·rw[h5]at e6
     simp (config:={maxSteps:=10000000}) [p231,md,e1,e2,e3,e4,e5,e6,e7,h1,h3,h4,q1,hc',q2,hl',s1,hh,eq_true hm,hbn,g1,g2,Alike2]
   ·have hd:decide ((k:Int)≠mate n.id)=true:=by simp[hm]
    have hbn:((k:Int) != mate n.id)=true:=by simp[hm]
    rw[hd]at e5
    cases h5:nodeOk q
    ·rw[h5]at e6
     simp (config:={maxSteps:=10000000}) [p231,md,e1,e2,e3,e4,e5,e6,e7,h1,h3,h4,q1,hc',q2,hl',s1,hh,hm,hbn,Alike2]
    ·rw[h5]at e6
     simp (config:={maxSteps:=10000000}) [p231,md,e1,e2,e3,e4,e5,e6,e7,h1,h3,h4,q1,hc',q2,hl',s1,hh,hm,hbn,g1,g2,Alike2]
end Go.Proofs.YtbolhfegdocpeaaGreat.Ow
namespace Go.Proofs.YtbolhfegdocpeaaGreat.Ow
open Go
set_option linter.unusedVariables false
set_option linter.unusedSimpArgs false
set_option maxHeartbeats 8000000
variable {PK:Nat->List Arg->Option Res}
theorem ev_min (a b:Int):semK G PK md 111 [.v (.sc (.int .i64 a)),.v (.sc (.int .i64 b))]=some ⟨[.v (.sc (.int .i64 (min a b)))],[],[]⟩:=by
 refine semK_of (pf:=p111) rfl (by simp[p111]) ?_
 by_cases h:a<b
 ·have hm:min a b=a:=by omega
  simp[p111,md,h,hm]
 ·have hm:min a b=b:=by omega
  simp[p111,md,h,hm]
def runP (b:List Int) (a k n:Nat):Bool:=decide (a+n<b.length)&&decide (b.getD (a+n) 0=b.getD (a+n - k) 0)
def run (b:List Int) (a k:Nat):Nat:=if a<b.length/\1<=k/\k<=a/\k<=255 then firstN (runP b a k) 100 0 else 0
theorem run_le (b:List Int) (a k:Nat):run b a k<=100/\a+run b a k<=max a b.length:=by
 unfold run
 split
 ·obtain⟨n,h1,h2,h3,h4⟩:=firstN_ex (runP b a k) 100
  rw[h1]
  refine⟨h2,?_⟩
  rcases Nat.eq_zero_or_pos n with h|h
  ·omega
  ·have:=h3 (n - 1) (by omega)
   unfold runP at this
   simp only[Bool.and_eq_true,decide_eq_true_iff]at this
   omega
 ·omega
@[simp] def st255 (b:List Int) (a k n:Nat):St:={n:=51,m:=0,tm:=[(0,.im 1 (enc fU b)),(1,.sc (.int .i64 a)),(2,.sc (.int .i64 k)),(7,.sc (.int .i64 n))],ob:=[]}
theorem ev_spec_Run (b:List Int) (a k:Nat) (hb:byt b) (ha:a<=1048576) (hk:k<=1000):semK G PK md 255 [.v (.im 1 (enc fU b)),.v (.sc (.int .i64 a)),.v (.sc (.int .i64 k))]=some ⟨[.v (.sc (.int .i64 (run b a k:Nat)))],[],[]⟩:=by
 refine semK_of (pf:=p255) rfl (by simp[p255]) ?_
 have hbl:=hb.1
 have w1:IntKind.wrap .i64 ((b.length:Int) - 1)=b.length - 1:=wrap_id (by omega) (by omega)
 have e1:=ev_l1In (PK:=PK) a 0 ((b.length:Int) - 1)
 have e2:=ev_min (PK:=PK) a 255
 have e3:=ev_l1In (PK:=PK) k 1 (min (a:Int) 255)
 unfold run
 by_cases h1:a<b.length
 case neg=>
  have i1:inB (a:Int) 0 (b.length - 1)=false:=by
   cases h:inB (a:Int) 0 (b.length - 1)
   ·rfl
   ·have:=inB_iff.1 h;omega
  rw[i1]at e1
  have hn: ¬ (a<b.length/\1<=k/\k<=a/\k<=255):=by omega
  simp[p255,md,w1,e1,hn]
 have i1:inB (a:Int) 0 (b.length - 1)=true:=inB_iff.2 (by omega)
 rw[i1]at e1
 by_cases h2:1<=k/\k<=a/\k<=255
 case neg=>
  have i3:inB (k:Int) 1 (min (a:Int) 255)=false:=by
   cases h:inB (k:Int) 1 (min (a:Int) 255)
   ·rfl
   ·have:=inB_iff.1 h;omega
  rw[i3]at e3
  rw[if_neg (by omega)]
  simp[p255,md,w1,e1,e2,e3]
 have i3:inB (k:Int) 1 (min (a:Int) 255)=true:=inB_iff.2 (by omega)
 rw[i3]at e3
 rw[if_pos ⟨h1,h2⟩]
 obtain⟨n,hn,hn100,hp,hend⟩:=firstN_ex (runP b a k) 100
 rw[hn]
 have step: ∀j:Nat,j<=100->IntKind.wrap .i64 ((a:Int)+j)=((a+j:Nat):Int)/\IntKind.wrap .i64 ((a:Int)+j - k)=((a+j - k:Nat):Int):=fun j hj=>⟨by rw[wrap_id (by omega) (by omega)];omega,by rw[wrap_id (by omega) (by omega)];omega⟩
 have hs:=loop_ok (G:=G) (PK:=PK) (md:=md) (o:=10000000) (live:=[0,1,2,7]) (c:=b255_0) (fun j=>st255 b a k j) n (fun j hj=>by
  have hpj:=hp j hj
  unfold runP at hpj
  simp only[Bool.and_eq_true,decide_eq_true_iff]at hpj
  obtain⟨q,hq⟩: ∃q,q=a+j:=⟨_,rfl⟩
  obtain⟨r,hr⟩: ∃r,r=a+j - k:=⟨_,rfl⟩
  obtain⟨s1,s2⟩:=step j (by omega)
  rw[←hq]at hpj s1
  rw[←hr]at s2
  rw[show q - k=r by omega]at hpj
  have s3:IntKind.wrap .i64 ((q:Int) - k)=(r:Int):=by rw[wrap_id (by omega) (by omega)];omega
  obtain⟨x,y1,hx,hx',hxd⟩:=getD_ex b hpj.1
  obtain⟨y,y2,hy,hy',hyd⟩:=getD_ex b (j:=r) (by omega)
  rw[hxd,hyd]at hpj
  have hxy:=hpj.2
  subst hxy
  have hinc:=incr (j:=j) (n:=100) (by omega) (by omega)
  have hj1:(j:Int)<100:=by omega
  simp[b255_0,md,hj1,s1,s3,y1,y2,hx',hy',hinc]) (by
  rcases hend with rfl|⟨hlt,hf⟩
  ·simp[b255_0]
  ·obtain⟨q,hq⟩: ∃q,q=a+n:=⟨_,rfl⟩
   obtain⟨r,hr⟩: ∃r,r=a+n - k:=⟨_,rfl⟩
   obtain⟨s1,s2⟩:=step n (by omega)
   have hj1:(n:Int)<100:=by omega
   rw[←hq]at s1
   by_cases hql:q<b.length
   ·obtain⟨x,y1,hx,hx',hxd⟩:=getD_ex b hql
    obtain⟨y,y2,hy,hy',hyd⟩:=getD_ex b (j:=r) (by omega)
    have hxy: ¬x=y:=by
     unfold runP at hf
     rw[←hq,show q - k=r by omega,hxd,hyd]at hf
     simpa[hql]using hf
    have s3:IntKind.wrap .i64 ((q:Int) - k)=(r:Int):=by rw[wrap_id (by omega) (by omega)];omega
    simp[b255_0,md,hj1,s1,s3,y1,y2,hx',hy',hxy]
   ·simp[b255_0,md,hj1,s1,hql])
 simp[p255,md,w1,e1,e2,e3]
 rw[hs]
 ·rcases hend with rfl|⟨hlt,hf⟩
  ·simp[b255_0]
  ·obtain⟨q,hq⟩: ∃q,q=a+n:=⟨_,rfl⟩
   obtain⟨r,hr⟩: ∃r,r=a+n - k:=⟨_,rfl⟩
   obtain⟨s1,s2⟩:=step n (by omega)
   have hj1:(n:Int)<100:=by omega
   rw[←hq]at s1
   by_cases hql:q<b.length
   ·obtain⟨x,y1,hx,hx',hxd⟩:=getD_ex b hql
    obtain⟨y,y2,hy,hy',hyd⟩:=getD_ex b (j:=r) (by omega)
    have hxy: ¬x=y:=by
     unfold runP at hf
     rw[←hq,show q - k=r by omega,hxd,hyd]at hf
     simpa[hql]using hf
    have s3:IntKind.wrap .i64 ((q:Int) - k)=(r:Int):=by rw[wrap_id (by omega) (by omega)];omega
    simp[b255_0,md,hj1,s1,s3,y1,y2,hx',hy',hxy]
   ·simp[b255_0,md,hj1,s1,hql]
 ·simp
 ·simp
def best (b:List Int) (a:Nat):Nat->Nat×Nat
 |0=>(0,0)
 |j+1=>if(best b a j).2<run b a (j+1)then(j+1,run b a (j+1))else best b a j
theorem best_bd (b:List Int) (a:Nat): ∀j,(best b a j).1<=j/\(best b a j).2<=100/\a+(best b a j).2<=max a b.length
 |0=>by simp[best];omega
 |j+1=>by
  have h1:=best_bd b a j
  have h2:=run_le b a (j+1)
  unfold best
  split
  ·simp only;omega
  ·omega
@[simp] def st252 (b:List Int) (a:Nat) (r:Nat×Nat) (j:Nat):St:={n:=27,m:=0,tm:=[(0,.im 1 (enc fU b)),(1,.sc (.int .i64 a)),(6,.sc (.int .i64 r.1)),(7,.sc (.int .i64 r.2)),(8,.sc (.int .i64 j))],ob:=[]}
theorem ev_l3Best (b:List Int) (a:Nat) (hb:byt b) (ha:a<=1048576):semK G PK md 252 [.v (.im 1 (enc fU b)),.v (.sc (.int .i64 a))]=some ⟨[.v (.sc (.int .i64 ((best b a (min a 255)).1:Nat))),.v (.sc (.int .i64 ((best b a (min a 255)).2:Nat)))],[],[]⟩:=by
 refine semK_of (pf:=p252) rfl (by simp[p252]) ?_
 have e2:=ev_min (PK:=PK) a 255
 obtain⟨n,hn⟩: ∃n,n=min a 255:=⟨_,rfl⟩
 have hm:min (a:Int) 255=(n:Int):=by omega
 rw[hm]at e2
 rw[←hn]
 have hs:=loop_ok (G:=G) (PK:=PK) (md:=md) (o:=10000000) (live:=[0,1,6,7,8]) (c:=b252_0) (fun j=>st252 b a (best b a j) (j+1)) n (fun j hj=>by
  have e:=ev_spec_Run (PK:=PK) b a (j+1) hb ha (by omega)
  have hrl:=run_le b a (j+1)
  obtain⟨q,hq⟩: ∃q,q=j+1:=⟨_,rfl⟩
  have hinc:=incr (j:=q) (n:=1000) (by omega) (by omega)
  have hle:(q:Int)<=n:=by omega
  simp only[best]
  rw[←hq]at e ⊢
  have hbd:=best_bd b a j
  generalize best b a j=r at hbd ⊢
  obtain⟨r1,r2⟩:=r
  generalize run b a q=u at*
  by_cases hlt:r2<u
  ·have hlt2:(r2:Int)<u:=by omega
   simp[b252_0,md,e2,hle,e,hlt,hlt2,hinc]
  ·have hlt2: ¬ (r2:Int)<u:=by omega
   simp[b252_0,md,e2,hle,e,hlt,hlt2,hinc]) (by
  have: ¬ (n:Int)+1<=n:=by omega
  simp[b252_0,md,e2,this])
 have hbz:best b a 0=(0,0):=rfl
 simp[p252,md]
 rw[hs]
 ·have: ¬ (n:Int)+1<=n:=by omega
  simp[b252_0,md,e2,this]
 ·simp
 ·simp[hbz]
def w8 (n:Int):Int:=IntKind.wrap .u8 n
def sqF (b:List Int) (s:Nat×List Int):Nat×List Int:=
 if 3<=(best b s.1 (min s.1 255)).2 then(s.1+(best b s.1 (min s.1 255)).2,s.2++[w8 (128+(best b s.1 (min s.1 255)).2),w8 (best b s.1 (min s.1 255)).1])
 else(s.1+1,s.2++(if b.getD s.1 0=0\/127<b.getD s.1 0 then [0,b.getD s.1 0]else [b.getD s.1 0]))
def squeeze (b:List Int):List Int:=if 3000<b.length then []else(wh (fun s=>decide (s.1<b.length)) (sqF b) b.length (0,[])).2
@[simp] def st245 (b:List Int) (s:Nat×List Int):St:={n:=60,m:=0,tm:=[(0,.im 1 (enc fU b)),(3,.ref 10000000 []),(4,.sc (.int .i64 s.1))],ob:=[(10000000,.arr 1 (enc fU s.2))]}
theorem ev_spec_Squeeze (b:List Int) (hb:byt b):semK G PK md 245 [.v (.im 1 (enc fU b))]=some ⟨[.v (.own 1 (enc fU (squeeze b)))],[],[]⟩:=by
 refine semK_of (pf:=p245) rfl (by simp[p245]) ?_
 unfold squeeze
 by_cases h0:3000<b.length
 ·have h1:(3000:Int)<b.length:=by omega
  simp[p245,md,h0,h1]
 have h1: ¬ (3000:Int)<b.length:=by omega
 obtain⟨⟨hinv,hg⟩,hs⟩:=loop_wh (G:=G) (PK:=PK) (md:=md) (o:=10000000) (live:=[0,3,4]) (c:=b245_0) (st245 b) (fun s=>decide (s.1<b.length)) (sqF b) (fun s=>s.1<=b.length/\s.2.length<=2*s.1) (fun s=>b.length - s.1) (fun s hi hg=>by
   obtain⟨a,out⟩:=s
   simp only[decide_eq_true_iff]at hi hg
   have e:=ev_l3Best (PK:=PK) b a hb (by omega)
   have hbd:=best_bd b a (min a 255)
   unfold sqF
   simp only
   obtain⟨x,y1,hx,hx',hxd⟩:=getD_ex b hg
   rw[hxd]
   have hxb:=hb.2 x (List.mem_of_getElem? hx)
   generalize best b a (min a 255)=r at*
   obtain⟨r1,r2⟩:=r
   simp only at hbd e ⊢
   by_cases h3:3<=r2
   ·rw[if_pos h3]
    refine⟨⟨by simp only;omega,by simp only[List.length_append,List.length_cons,List.length_nil];omega⟩,by simp only;omega,?_⟩
    have h3':(3:Int)<=r2:=by omega
    have w1:IntKind.wrap .i64 ((128:Int)+r2)=128+r2:=wrap_id (by omega) (by omega)
    have w2:IntKind.wrap .i64 ((a:Int)+r2)=(a:Int)+r2:=wrap_id (by omega) (by omega)
    have g1:out.length+2<=35184372088832:=by omega
    simp[b245_0,md,hg,e,h3',w1,w2,g1,w8]
    simp[enc]
   ·rw[if_neg h3]
    have h3': ¬ (3:Int)<=r2:=by omega
    have hinc:IntKind.wrap .i64 ((a:Int)+1)=(a:Int)+1:=wrap_id (by omega) (by omega)
    refine⟨⟨by simp only;omega,by split<;>simp only[List.length_append,List.length_cons,List.length_nil]<;>omega⟩,by simp only;omega,?_⟩
    have g1:out.length+1<=35184372088832:=by omega
    have g2:out.length+1+1<=35184372088832:=by omega
    by_cases hz:x=0
    ·simp[b245_0,md,hg,e,h3',hx',hz,hinc,g1,g2]
     simp[enc,hz]
    ·by_cases h7:127<x
     ·simp[b245_0,md,hg,e,h3',hx',hz,h7,hinc,g1,g2]
      simp[enc]
     ·simp[b245_0,md,hg,e,h3',hx',hz,h7,hinc,g1,g2]
      simp[enc]) (fun s hi hg=>by
   have hg': ¬s.1<b.length:=by simpa using hg
   simp[b245_0,md,hg']) b.length (0,[]) ⟨by simp,by simp⟩ (by simp)
 generalize wh (fun s=>decide (s.1<b.length)) (sqF b) b.length (0,[])=r at*
 have hg': ¬r.1<b.length:=by simpa using hg
 simp[p245,md,h0,h1]
 rw[hs]
 ·simp[b245_0,md,hg']
 ·simp
 ·simp
theorem squeeze_len (b:List Int):(squeeze b).length<=6000:=by
 unfold squeeze
 split
 ·simp
 ·rename_i h
  have key: ∀ (n:Nat) (s:Nat×List Int),s.2.length<=2*s.1->s.1<=b.length->(wh (fun s=>decide (s.1<b.length)) (sqF b) n s).2.length<=2*b.length:=by
   intro n
   induction n with
   |zero=>intro s h1 h2;simp only[wh];omega
   |succ n ih=>
    intro s h1 h2
    unfold wh
    split
    ·rename_i hg
     simp only[decide_eq_true_iff]at hg
     have hbd:=best_bd b s.1 (min s.1 255)
     refine ih _ ?_ ?_
     ·unfold sqF
      split
      ·simp only[List.length_append,List.length_cons,List.length_nil];omega
      ·split<;>simp only[List.length_append,List.length_cons,List.length_nil]<;>omega
     ·unfold sqF
      split
      ·simp only;omega
      ·simp only;omega
    ·omega
  have:=key b.length (0,[]) (by simp) (by simp)
  omega
theorem squeeze_by (b:List Int) (hb:by8 b):by8 (squeeze b):=by
 unfold squeeze
 split
 ·intro x hx;cases hx
 ·have key: ∀ (n:Nat) (s:Nat×List Int),by8 s.2->by8 (wh (fun s=>decide (s.1<b.length)) (sqF b) n s).2:=by
   intro n
   induction n with
   |zero=>intro s h1;exact h1
   |succ n ih=>
    intro s h1
    unfold wh
    split
    ·rename_i hg
     simp only[decide_eq_true_iff]at hg
     refine ih _ ?_
     obtain⟨x,y1,hx,hx',hxd⟩:=getD_ex b hg
     have hxb:=hb x (List.mem_of_getElem? hx)
     unfold sqF
     rw[hxd]
     split
     ·refine by8_app h1 fun y hy=> ?_
      simp only[List.mem_cons,List.not_mem_nil,or_false]at hy
      rcases hy with rfl|rfl
      ·exact wrap_by _
      ·exact wrap_by _
     ·refine by8_app h1 fun y hy=> ?_
      split at hy
      ·simp only[List.mem_cons,List.not_mem_nil,or_false]at hy
       omega
      ·simp only[List.mem_cons,List.not_mem_nil,or_false]at hy
       omega
    ·exact h1
  exact key b.length (0,[]) (fun x hx=>by cases hx)
end Go.Proofs.YtbolhfegdocpeaaGreat.Ow
