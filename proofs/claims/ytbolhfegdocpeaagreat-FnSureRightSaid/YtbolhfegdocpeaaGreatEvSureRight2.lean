/- FnSureRight: evaluated. -/
import Derived.Test.YtbolhfegdocpeaaGreatEvS2
import Derived.Test.YtbolhfegdocpeaaGreatEvSureRight1
namespace Go.Proofs.YtbolhfegdocpeaaGreat.Ow
open Go
set_option linter.unusedVariables false
set_option linter.unusedSimpArgs false
set_option maxHeartbeats 16000000
variable {PK:Nat->List Arg->Option Res}
theorem ev_DrawSure (b:List Int) (hb:byt b): ∃s a,SD s/\semK G PK md 22 [.v (.im 1 (enc fU b))]=some ⟨[.a (owneds (fSt s)),.v (.sc (.int .i64 a))],[],[]⟩:=by
 obtain⟨c,hc,e0⟩:=ev_l1New (PK:=PK) b hb
 obtain⟨s,c1,hs,k1,e1⟩:=ev_l23Draw (PK:=PK) b c hb hc
 obtain⟨f,c2,k2,e2⟩:=ev_l1Once (PK:=PK) b c1 4 hb k1 (by omega)
 simp only[cur,owneds,owned,fSt,fWo]at e0 e1 e2
 cases f
 ·obtain⟨p,_,e3⟩:=ev_l12Prime (PK:=PK) s.w
  simp only[lents,lent,fWo]at e3
  refine⟨s,p,hs,semK_of (pf:=p22) rfl (by simp[p22]) ?_⟩
  simp (config:={maxSteps:=10000000}) [p22,md,e0,e1,e2,e3,Alike2]
 ·obtain⟨x,c3,hx,_,k3,e3⟩:=ev_l1Below (PK:=PK) b c2 5 hb k2 (by omega)
  have hx:=hx (by omega)
  have hw:IntKind.wrap .i64 (x - 1)=x - 1:=wrap_id (by omega) (by omega)
  simp only[cur]at e3
  refine⟨s,x - 1,hs,semK_of (pf:=p22) rfl (by simp[p22]) ?_⟩
  simp (config:={maxSteps:=10000000}) [p22,md,e0,e1,e2,e3,hw,Alike2]
theorem ev_impl_Depth (w:WorldD) (n:Int) (hl:w.log.length<=1048576):semK G PK md 25 [.a (lents (fWo w)),.v (.sc (.int .i64 n))]=some ⟨[.v (.sc (.int .i64 (chain w.log n).length))],[],[]⟩:=by
 have e:=ev_impl_Chain (PK:=PK) w n hl
 simp only[lents,lent,fWo]at e
 refine semK_of (pf:=p25) rfl (by simp[p25]) ?_
 simp[p25,md,e]
theorem ev_spec_Depth (w:WorldD) (n:Int) (hl:w.log.length<=1048576):semK G PK md 26 [.a (lents (fWo w)),.v (.sc (.int .i64 n))]=some ⟨[.v (.sc (.int .i64 (chain w.log n).length))],[],[]⟩:=by
 have e:=ev_spec_Chain (PK:=PK) w n hl
 simp only[lents,lent,fWo]at e
 refine semK_of (pf:=p26) rfl (by simp[p26]) ?_
 simp[p26,md,e]
@[simp] def st27 (l:List Int) (x:Int) (j:Nat):St:={n:=18,m:=0,tm:=[(0,.im 1 (enc fI l)),(1,.sc (.int .i64 x)),(5,.sc (.int .i64 j))],ob:=[]}
theorem ev_within (l:List Int) (x:Int) (hl:l.length<=1048576) (hx:x∈l):semK G PK md 27 [.v (.im 1 (enc fI l)),.v (.sc (.int .i64 x))]=some ⟨[.v (.sc (.bool true))],[],[]⟩:=by
 obtain⟨k,hk,hp,hkn⟩:=first (fun j=>l.getD j 0≠x) l.length
 obtain⟨hkl,hkx⟩:k<l.length/\l[k]? =some x:=by
  rcases hkn with rfl|⟨h1,h2⟩
  ·obtain⟨i,hi⟩:=List.getElem?_of_mem hx
   have hil:=(at_of hi).1
   exact absurd (by rw[List.getD_eq_getElem?_getD,hi];rfl) (hp i hil)
  ·refine⟨h1,?_⟩
   obtain⟨y,hy⟩:=getElem?_of_lt h1
   rw[List.getD_eq_getElem?_getD,hy]at h2
   have:y=x:=by simpa using h2
   rw[hy,this]
 obtain⟨_,hkx'⟩:=at_of hkx
 refine semK_of (pf:=p27) rfl (by simp[p27]) ?_
 have hsz:=loop_ok (G:=G) (PK:=PK) (md:=md) (o:=10000000) (live:=[0,1,5]) (c:=b27_0) (st27 l x) k (fun j hj=>by
  have hjl:j<l.length:=by omega
  obtain⟨y,hy⟩:=getElem?_of_lt hjl
  obtain⟨_,hy'⟩:=at_of hy
  have hne:=hp j hj
  rw[List.getD_eq_getElem?_getD,hy]at hne
  have hne: ¬y=x:=by simpa using hne
  have hinc:=incr hjl hl
  simp[b27_0,md,hjl,hy,hy',hne,hinc]) (by simp[b27_0,hkl,hkx,hkx'])
 simp[p27,md]
 rw[hsz]
 ·simp[b27_0,hkl,hkx,hkx']
 ·simp
 ·simp
theorem nodup_len {l:List Int} (hn:l.Nodup): ∀s:List Int,(∀x∈l,x∈s)->l.length<=s.length:=by
 induction l with
 |nil=>intro s _;simp
 |cons x l ih=>
  intro s h
  have hx:=h x List.mem_cons_self
  obtain⟨h1,h2⟩:=List.nodup_cons.1 hn
  have:=ih h2 (s.erase x) (fun y hy=>(List.mem_erase_of_ne (by intro e;subst e;exact h1 hy)).2 (h y (List.mem_cons_of_mem _ hy)))
  rw[List.length_erase_of_mem hx]at this
  have:=List.length_pos_of_mem hx
  simp only[List.length_cons]
  omega
theorem chainR_dec (log:List RecD): ∀ (f:Nat) (n:Int),(∀x∈chainR log f n,x<=n)/\(chainR log f n).Nodup
 |0,n=>⟨(fun x hx=>nomatch hx),List.nodup_nil⟩
 |f+1,n=>by
  simp only[chainR]
  split
  ·rename_i h
   obtain⟨h1,h2⟩:=chainR_dec log f (upOf log n)
   refine⟨fun x hx=> ?_,List.nodup_cons.2 ⟨fun hx=> ?_,h2⟩⟩
   ·rcases List.mem_cons.1 hx with rfl|hx
    ·omega
    ·have:=h1 x hx;omega
   ·have:=h1 n hx;omega
  ·exact⟨fun x hx=>(by rw[List.mem_singleton.1 hx];omega),by simp⟩
theorem chain_nodup (log:List RecD) (n:Int):(chain log n).Nodup:=by
 unfold chain
 split
 ·exact List.pairwise_reverse.2 ((chainR_dec log _ n).2.imp fun h=>h.symm)
 ·exact List.nodup_nil
theorem chain_self {log:List RecD} {n:Int} (h:1<=n/\n<=log.length):n∈chain log n:=by
 unfold chain
 rw[if_pos h]
 refine List.mem_reverse.2 ?_
 obtain⟨f,hf⟩: ∃f,n.toNat=f+1:=⟨n.toNat - 1,by omega⟩
 rw[hf]
 exact List.mem_cons_self
theorem worldOk_last {w:WorldD} (h:worldOk w=true) {i:Nat} (hi:i<3):0<=(nd w i).mt.last/\(nd w i).mt.last<=w.log.length:=by
 unfold worldOk at h
 simp only[Bool.and_eq_true]at h
 have h1:=allB_get h.1.1.1.2 hi
 unfold nodeP at h1
 simp only[Bool.and_eq_true,decide_eq_true_iff]at h1
 have h2:=nodeOk_of h1.1.1.2
 have h3:=h2.mt
 unfold metaOk at h3
 simp only[Bool.and_eq_true]at h3
 exact⟨(inB_iff.1 h3.1.2).1,h1.1.2⟩
@[simp] def st4 (s:StoreD) (a:Int) (ok:Bool) (j:Nat):St:={n:=98,m:=0,tm:=[(3,.pb 10000000 0),(4,.sc (.int .i64 a)),(5,.sc (.bool ok)),(6,.sc (.int .i64 j))],ob:=[(10000000,.box [.ref 10000001 [],.ref 10000002 [],.ref 10000003 [],.ref 10000004 [],.sc (.int .i64 s.w.gen),.ref 10000005 []]),(10000001,.arr 16 (enc fN s.w.nodes)),(10000002,.arr 3 (enc fW s.w.net)),(10000003,.arr 2 (enc fR s.w.log)),(10000004,.arr 1 (enc fI s.w.safe)),(10000005,.arr 1 (enc fUU s.blocks))]}
theorem lp_SureR (s:StoreD) (a:Int) (ok:Bool) (hs:SD s): ∀ (t:St),t.m<=10000000->canon 10000000 [3,4,5,6] t=st4 s a ok 0->semL G PK md 10000000 [3,4,5,6] b4_0 t=exec (semK G PK md) (semL G PK md) md b4_0 (st4 s a ok 3):=by
 have h3:=hs.w.n3
 refine loop_ok (G:=G) (PK:=PK) (md:=md) (o:=10000000) (live:=[3,4,5,6]) (c:=b4_0) (st4 s a ok) 3 (fun j hj=> ?_) (by simp[b4_0,h3])
 obtain⟨x,hx⟩:=getElem?_of_lt (l:=s.w.nodes) (i:=j) (by omega)
 obtain⟨hjl,hx'⟩:=at_of hx
 have hinc:=incr hj (by omega)
 have e1:=ev_impl_Depth (PK:=PK) s.w x.mt.last (by have:=hs.w.log;omega)
 have e2:=ev_spec_Depth (PK:=PK) s.w x.mt.last (by have:=hs.w.log;omega)
 simp only[lents,lent,fWo]at e1 e2
 have hj':(j:Int)<3:=by omega
 generalize ((chain s.w.log x.mt.last).length:Int)=q at*
 simp (config:={maxSteps:=10000000}) [b4_0,md,h3,hj,hj',hjl,hx,hx',e1,e2,hinc,Alike2]
theorem ev_law (x:List Int) (hx:okU x):semK G PK md 4 [.v (.im 1 (enc fU x))]=some ⟨[.v (.sc (.bool true))],[],[]⟩:=by
 refine semK_of (pf:=p4) rfl (by simp[p4]) ?_
 have e0:=ev_big (PK:=PK) x hx.1
 by_cases hbig:1048576<x.length
 ·rw[decide_eq_true hbig]at e0
  simp[p4,md,e0]
 rw[decide_eq_false hbig]at e0
 have hb:=okU_byt hx (by omega)
 obtain⟨s,a,hs,e1⟩:=ev_DrawSure (PK:=PK) x hb
 have e2:=ev_impl_Sure (PK:=PK) s a hs.S
 have e3:=ev_spec_Sure (PK:=PK) s a hs.S
 have hlp:=lp_SureR (PK:=PK) s a (sureQ s a) hs
 have h3:=hs.w.n3
 simp only[lents,lent,owneds,owned,fSt,fWo]at e1 e2 e3
 cases hq:sureQ s a
 ·rw[hq]at e2 e3 hlp
  simp (config:={maxSteps:=10000000}) [p4,md,e0,e1,e2,e3,Alike2]
  rw[hlp]
  ·simp (config:={maxSteps:=10000000}) [b4_0,h3]
  ·simp
  ·simp
 rw[hq]at e2 e3 hlp
 unfold sureQ at hq
 simp only[Bool.and_eq_true,decide_eq_true_iff]at hq
 obtain⟨⟨⟨⟨q1,q2⟩,q3⟩,q4⟩,q5⟩:=hq
 have q2:=inB_iff.1 q2
 obtain⟨k,rfl⟩: ∃k:Nat,a=k:=⟨a.toNat,by omega⟩
 simp only[Int.toNat_natCast]at q3 q4 q5
 have hk:k<3:=by omega
 obtain⟨y,hkl,hy,hy',hyd,_⟩:=get_ex s.w.nodes zN (j:=k) (by omega)
 have hyn:nd s.w k=y:=hyd
 have hlast:=worldOk_last (storeOk_w q1) hk
 rw[hyn]at q3 q4 q5 hlast
 have hall: ∀z∈chain s.w.log y.mt.last,z∈s.w.safe:=fun z hz=>by
  have:=List.all_eq_true.1 q5 z hz
  simpa using this
 have hdep:(chain s.w.log y.mt.last).length<=s.w.safe.length:=nodup_len (chain_nodup _ _) _ hall
 have e4:=ev_impl_Depth (PK:=PK) s.w y.mt.last (by have:=hs.w.log;omega)
 simp only[lents,lent,fWo]at e4
 by_cases h0:y.mt.last=0
 ·rw[h0]at e4 hdep
  have hdep':((chain s.w.log 0).length:Int)<=s.w.safe.length:=by omega
  generalize ((chain s.w.log 0).length:Int)=q at*
  simp (config:={maxSteps:=10000000}) [p4,md,e0,e1,e2,e3,Alike2]
  rw[hlp]
  ·simp (config:={maxSteps:=10000000}) [b4_0,md,h3,hk,hkl,hy,hy',q3,q4,h0,e4,hdep',Alike2]
  ·simp
  ·simp
 ·have e5:=ev_within (PK:=PK) s.w.safe y.mt.last (by have:=hs.w.safe;omega) (hall _ (chain_self (by omega)))
  have hdep':((chain s.w.log y.mt.last).length:Int)<=s.w.safe.length:=by omega
  generalize ((chain s.w.log y.mt.last).length:Int)=q at*
  simp (config:={maxSteps:=10000000}) [p4,md,e0,e1,e2,e3,Alike2]
  rw[hlp]
  ·simp (config:={maxSteps:=10000000}) [b4_0,md,h3,hk,hkl,hy,hy',q3,q4,h0,e4,e5,hdep',Alike2]
  ·simp
  ·simp
end Go.Proofs.YtbolhfegdocpeaaGreat.Ow
