/- Being sure: evaluated. -/
import Derived.Test.YtbolhfegdocpeaaGreatEvS0
import Derived.Test.YtbolhfegdocpeaaGreatEvSureRight0
namespace Go.Proofs.YtbolhfegdocpeaaGreat.Ow
open Go
set_option linter.unusedVariables false
set_option linter.unusedSimpArgs false
set_option maxHeartbeats 4000000
variable {PK:Nat->List Arg->Option Res}
def sureQ (s:StoreD) (a:Int):Bool:=storeOk s&&inB a 0 2&&(nd s.w a.toNat).prime&&decide ((nd s.w a.toNat).wait.length=0)&&(chain s.w.log (nd s.w a.toNat).mt.last).all (fun x=>decide (x∈s.w.safe))
@[simp] def st24 (s:StoreD) (l:List Int) (j:Nat):St:={n:=62,m:=0,tm:=[(2,.pb 10000000 0),(5,.ref 10000001 []),(6,.sc (.int .i64 j))],ob:=[(10000000,sbox s),(10000001,.arr 1 (enc fI l))]}
theorem ev_spec_Sure (s:StoreD) (a:Int) (hs:stS s):semK G PK md 24 [.a (lents (fSt s)),.v (.sc (.int .i64 a))]=some ⟨[.v (.sc (.bool (sureQ s a)))],[],[]⟩:=by
 refine semK_of (pf:=p24) rfl (by simp[p24]) ?_
 have e:=ev_spec_StoreOk (PK:=PK) s hs
 simp only[lents,lent,fSt]at e
 have e1:=ev_l1In (PK:=PK) a 0 2
 unfold sureQ
 cases hok:storeOk s
 ·rw[hok]at e
  simp[p24,md,e]
 rw[hok]at e
 cases ha:inB a 0 2
 ·rw[ha]at e1
  simp[p24,md,e,e1]
 rw[ha]at e1
 have ra:=inB_iff.1 ha
 obtain⟨i,rfl⟩: ∃i:Nat,a=(i:Int):=⟨a.toNat,by omega⟩
 have hN:=worldOk_nodes (storeOk_w hok)
 obtain⟨x,y1,hx,hx',hxd,hxm⟩:=get_ex s.w.nodes zN (j:=i) (by rw[hN.len];omega)
 unfold nd
 simp only[Int.toNat_natCast,hxd]
 cases hpr:x.prime
 ·simp[p24,md,e,e1,y1,hx',hpr]
 by_cases hwt:x.wait.length=0
 case neg=>
  have hwt':(0:Int)<x.wait.length:=by omega
  have hwt2: ¬x.wait=[]:=fun h=>hwt (by rw[h];rfl)
  have hwt3:0<x.wait.length:=by omega
  simp[p24,md,e,e1,y1,hx',hpr,hwt,hwt',hwt2,hwt3]
 have hwt': ¬ (0:Int)<x.wait.length:=by omega
 have hwt2:x.wait=[]:=List.eq_nil_of_length_eq_zero hwt
 have e2:=ev_spec_Chain (PK:=PK) s.w x.mt.last hs.w.log
 simp only[lents,lent,fWo]at e2
 have hcl:=chain_len s.w.log x.mt.last
 have hlog:=hs.w.log
 generalize chain s.w.log x.mt.last=c at e2 hcl ⊢
 rw[←all_allB (fun x=>decide (x∈s.w.safe)) c 0]
 obtain⟨bad,hb,hsz⟩:=loop_all (G:=G) (PK:=PK) (md:=md) (o:=10000000) (live:=[2,5,6]) (c:=b24_0) (st24 s c) (fun j=>decide (c.getD j 0∈s.w.safe)) (c.length) (fun s=>s.m=0/\getT s.tm 4= .sc (.bool false)) (fun j hj=>by
  obtain⟨y,z1,hy,hy',hyd,hym⟩:=get_ex c 0 hj
  have hinc:=incr hj (by omega)
  have e3:=ev_l2Has (PK:=PK) s.w.safe y hs.w.safe
  simp only[hyd]
  generalize decide (y∈s.w.safe)=b1 at e3 ⊢
  cases b1<;>simp[b24_0,md,hj,hy',e3,hinc]) (by simp[b24_0])
 cases hp:allB (fun j=>decide (c.getD j 0∈s.w.safe)) c.length
 ·obtain⟨g1,g2⟩:=hb hp
  simp only[hp]at hsz
  simp[p24,md,e,e1,y1,hx',hpr,hwt2,e2]
  rw[hsz]
  ·simp[g1,g2]
  ·simp
  ·simp
 ·simp only[hp]at hsz
  simp[p24,md,e,e1,y1,hx',hpr,hwt2,e2]
  rw[hsz]
  ·simp[b24_0]
  ·simp
  ·simp
theorem ev_hasAll1 (all:List Int) (x:Int) (hl:all.length<=1048576):semK G PK md 106 [.v (.sc (.int .i64 x)),.pi (fII all)]=some ⟨[.v (.sc (.bool (!decide (x∈all))))],[],[]⟩:=by
 refine semK_of (pf:=p106) rfl (by simp[p106]) ?_
 have e:=ev_Contains (PK:=PK) all x hl
 simp[p106,md,e]
theorem ev_hasAll (l all:List Int) (hl:l.length<=1048576) (ha:all.length<=1048576):semK G PK md 71 [.v (.im 1 (enc fI l)),.v (.im 1 (enc fI all))]=some ⟨[.v (.sc (.bool (l.all (fun x=>decide (x∈all)))))],[],[]⟩:=by
 refine semK_of (pf:=p71) rfl (by simp[p71]) ?_
 have e:=ev_HasI1 (PK:=PK) 106 (fII all) (fun x=> !decide (x∈all)) l hl rfl (fun x _=>ev_hasAll1 all x ha)
 have hq:l.any (fun x=> !decide (x∈all))= !l.all (fun x=>decide (x∈all)):=by rw[List.not_all_eq_any_not]
 rw[hq]at e
 simp only[fII]at e
 generalize l.all (fun x=>decide (x∈all))=b at e ⊢
 simp[p71,md,e]
theorem ev_impl_Sure (s:StoreD) (a:Int) (hs:stS s):semK G PK md 23 [.a (lents (fSt s)),.v (.sc (.int .i64 a))]=some ⟨[.v (.sc (.bool (sureQ s a)))],[],[]⟩:=by
 refine semK_of (pf:=p23) rfl (by simp[p23]) ?_
 have e:=ev_impl_StoreOk (PK:=PK) s hs
 simp only[lents,lent,fSt]at e
 have e1:=ev_isNode (PK:=PK) a
 unfold sureQ
 cases hok:storeOk s
 ·rw[hok]at e
  simp[p23,md,e]
 rw[hok]at e
 cases ha:inB a 0 2
 ·rw[ha]at e1
  simp[p23,md,e,e1]
 rw[ha]at e1
 have ra:=inB_iff.1 ha
 obtain⟨i,rfl⟩: ∃i:Nat,a=(i:Int):=⟨a.toNat,by omega⟩
 have hN:=worldOk_nodes (storeOk_w hok)
 obtain⟨x,y1,hx,hx',hxd,hxm⟩:=get_ex s.w.nodes zN (j:=i) (by rw[hN.len];omega)
 unfold nd
 simp only[Int.toNat_natCast,hxd]
 cases hpr:x.prime
 ·simp[p23,md,e,e1,y1,hx',hpr]
 by_cases hwt:x.wait.length=0
 case neg=>
  have hwt': ¬ (x.wait.length:Int)=0:=by omega
  have hwt2: ¬x.wait=[]:=fun h=>hwt (by rw[h];rfl)
  simp[p23,md,e,e1,y1,hx',hpr,hwt,hwt',hwt2]
 have hwt2:x.wait=[]:=List.eq_nil_of_length_eq_zero hwt
 have e2:=ev_impl_Chain (PK:=PK) s.w x.mt.last hs.w.log
 simp only[lents,lent,fWo]at e2
 have hcl:=chain_len s.w.log x.mt.last
 have hlog:=hs.w.log
 have e3:=ev_hasAll (PK:=PK) (chain s.w.log x.mt.last) s.w.safe (by omega) hs.w.safe
 simp[p23,md,e,e1,y1,hx',hpr,hwt2,e2,e3]
end Go.Proofs.YtbolhfegdocpeaaGreat.Ow
