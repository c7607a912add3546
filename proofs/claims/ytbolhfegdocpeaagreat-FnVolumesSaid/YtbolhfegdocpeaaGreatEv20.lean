/- Functions evaluated on the small machine: A deed: what the reference makes of a world, Sizes of what deeds make, A deed: what the reference makes of a world, New nodes, New nodes: both, A new world. -/
import Derived.Test.YtbolhfegdocpeaaGreatEv19
import Derived.Test.YtbolhfegdocpeaaGreatEv18
import Derived.Test.YtbolhfegdocpeaaGreatEv17
import Derived.Test.YtbolhfegdocpeaaGreatEv8
namespace Go.Proofs.YtbolhfegdocpeaaGreat.Ow
open Go
set_option linter.unusedVariables false
set_option linter.unusedSimpArgs false
set_option maxHeartbeats 16000000
variable {PK:Nat->List Arg->Option Res}
theorem fin1_2 {fin:List (Option (List (List T)))} (h:fin1 fin):fin2 fin:=by
 rcases h with rfl|⟨rows,rfl⟩
 ·exact⟨_,_,rfl⟩
 ·exact⟨_,_,rfl⟩
def twoW (w:WorldD) (kind:Int) (a:Nat) (b:Int):WorldD×Int:=
 if !inB b 0 2||decide ((a:Int)=b)then(w,2)else if kind=2 then joinW w a b.toNat else if kind=9 then copiesW w a b.toNat
 else if !(nd w a).conn.getD b.toNat false then(w,3)else(cutW w a b.toNat,0)
theorem ev_l12Two (w:WorldD) (kind:Int) (a:Nat) (b:Int) (hk:kind=2\/kind=3\/kind=9) (ha:a<3) (hw:WI w): ∃fin,fin2 fin/\semK G PK md 188 [.a (owneds (fWo w)),.a (lents (fD ⟨kind,a,b⟩))]=some ⟨[.a (owneds (fWo (twoW w kind a b).1)),.v (.sc (.int .i64 (twoW w kind a b).2))],fin,[]⟩:=by
 have e1:=ev_l1In (PK:=PK) b 0 2
 unfold twoW
 have nfin:fin2 [none,none,none,none]:=⟨_,_,rfl⟩
 cases hb:inB b 0 2
 ·rw[hb]at e1
  refine⟨_,nfin,semK_of (pf:=p188) rfl (by simp[p188]) ?_⟩
  rcases hk with rfl|rfl|rfl<;>simp[p188,md,e1]
 rw[hb]at e1
 have rb:=inB_iff.1 hb
 obtain⟨k,rfl⟩: ∃k:Nat,b=(k:Int):=⟨b.toNat,by omega⟩
 rcases tfb (a:Int) k with ⟨c1,d1⟩|⟨c1,d1⟩
 ·refine⟨_,nfin,semK_of (pf:=p188) rfl (by simp[p188]) ?_⟩
  have hak:a=k:=by have:=of_eq_true c1;omega
  subst hak
  simp[p188,md,e1]
 have hak:a≠k:=fun e=>by subst e;simp at c1
 have c1':(a=k)=False:=eq_false hak
 have hdec:decide ((a:Int)=k)=false:=by simp[c1]
 simp only[hdec,Int.toNat_natCast]
 rcases hk with rfl|rfl|rfl
 ·have e2:=ev_l12Join (PK:=PK) w a k ha (by omega) hak hw
  refine⟨_,nfin,semK_of (pf:=p188) rfl (by simp[p188]) ?_⟩
  simp only[owneds,owned,fWo]at e2
  generalize joinW w a k=r at*
  simp (config:={maxSteps:=10000000}) [p188,md,e1,c1,c1',d1,e2]
 ·obtain⟨x,y1,_,hx',hxd,hxm⟩:=get_ex w.nodes zN (j:=a) (by have:=hw.n3;omega)
  have hxa:nd w a=x:=hxd
  obtain⟨c,q1,_,cc',hcd⟩:=getB_ex x.conn (j:=k) (by have:=(hw.node x hxm).b.conn;omega)
  rw[hxa,hcd]
  cases c
  ·refine⟨_,nfin,semK_of (pf:=p188) rfl (by simp[p188]) ?_⟩
   simp (config:={maxSteps:=10000000}) [p188,md,e1,c1,c1',d1,y1,hx',q1,cc']
  ·have e2:=ev_l12Cut (PK:=PK) w a k hw.n3 ha (by omega) hak (by have:=hw.net;omega) hw.L.c3
   refine⟨[none,some (holes w.net a k w.net.length),none,none],⟨_,_,rfl⟩,semK_of (pf:=p188) rfl (by simp[p188]) ?_⟩
   simp only[owneds,owned,fWo]at e2
   generalize cutW w a k=v at*
   simp (config:={maxSteps:=10000000}) [p188,md,e1,c1,c1',d1,y1,hx',q1,cc',e2]
 ·obtain⟨fin,hfin,e2⟩:=ev_l12Copies (PK:=PK) w a k ha (by omega) hw
  refine⟨fin,fin1_2 hfin,semK_of (pf:=p188) rfl (by simp[p188]) ?_⟩
  simp only[owneds,owned,fWo]at e2
  generalize copiesW w a k=r at*
  rcases hfin with rfl|⟨rows,rfl⟩<;>simp (config:={maxSteps:=10000000}) [p188,md,e1,c1,c1',d1,e2]
def oneW (w:WorldD) (d:DeedD):WorldD×Int:=
 if d.kind=7\/d.kind=8 then giveW w d.kind d.a
 else if !inB d.a 0 2||decide (d.kind=1)&& !inB d.b 0 7 then(w,2)
 else if d.kind=1 then writeW w d.a.toNat d.b
 else if d.kind=2\/d.kind=3\/d.kind=9 then twoW w d.kind d.a.toNat d.b
 else if d.kind=4\/d.kind=5\/d.kind=6 then fallW w d.kind d.a.toNat d.b
 else if d.a=2 then(w,3)else roleW w d.kind d.a.toNat (1 - d.a.toNat)
theorem worldOk_Dn {w:WorldD} (h:worldOk w=true) (hw:wS w) {a:Nat} (ha:a<3):DnI a ⟨w,0,[]⟩:=by
 refine⟨worldOk_WI h hw,.inl rfl,?_⟩
 have hN:=worldOk_nodes h
 have h1:=(lk_get (hN.ok a ha) ha).2
 unfold isCn
 simp only[Int.toNat_natCast]
 cases hc:(nd w a).conn.getD a false
 ·rfl
 ·exact absurd (hN.id a ha).symm (h1 hc)
theorem worldOk_gen {w:WorldD} (h:worldOk w=true):0<=w.gen/\w.gen<=100000:=by
 unfold worldOk at h
 simp only[Bool.and_eq_true]at h
 have:=inB_iff.1 h.1.1.1.1.2
 omega
theorem ev_l12One (w:WorldD) (d:DeedD) (hk:1<=d.kind/\d.kind<=12) (hok:worldOk w=true) (hw:wS w): ∃fin,fin2 fin/\semK G PK md 177 [.a (owneds (fWo w)),.a (lents (fD d))]=some ⟨[.a (owneds (fWo (oneW w d).1)),.v (.sc (.int .i64 (oneW w d).2))],fin,[]⟩:=by
 obtain⟨kind,a0,b⟩:=d
 simp only at hk
 have hWI:=worldOk_WI hok hw
 unfold oneW
 simp only
 by_cases h78:kind=7\/kind=8
 ·obtain⟨fin,hfin,e2⟩:=ev_l12Give (PK:=PK) w kind a0 b h78 hok hw
  refine⟨fin,hfin,semK_of (pf:=p177) rfl (by simp[p177]) ?_⟩
  rw[if_pos h78]
  simp only[owneds,owned,fWo,lents,lent,fD]at e2
  generalize giveW w kind a0=r at*
  obtain⟨A,B,rfl⟩:=hfin
  rcases h78 with rfl|rfl<;>cases A<;>cases B<;>simp (config:={maxSteps:=10000000}) [p177,md,e2]
 have h7: ¬kind=7:=fun h=>h78 (.inl h)
 have h8: ¬kind=8:=fun h=>h78 (.inr h)
 rw[if_neg h78]
 have e1:=ev_l1In (PK:=PK) a0 0 2
 have e3:=ev_l1In (PK:=PK) b 0 7
 have nfin:fin2 [none,none,none,none]:=⟨_,_,rfl⟩
 cases ha:inB a0 0 2
 ·rw[ha]at e1
  refine⟨_,nfin,semK_of (pf:=p177) rfl (by simp[p177]) ?_⟩
  simp (config:={maxSteps:=10000000}) [p177,md,e1,h7,h8]
 rw[ha]at e1
 have ra:=inB_iff.1 ha
 obtain⟨a,rfl⟩: ∃a:Nat,a0=(a:Int):=⟨a0.toNat,by omega⟩
 simp only[Int.toNat_natCast]
 by_cases h1:kind=1
 ·subst h1
  cases hb:inB b 0 7
  ·rw[hb]at e3
   refine⟨_,nfin,semK_of (pf:=p177) rfl (by simp[p177]) ?_⟩
   simp (config:={maxSteps:=10000000}) [p177,md,e1,e3]
  ·rw[hb]at e3
   obtain⟨fin,hfin,e2⟩:=ev_l12Write (PK:=PK) w a b (by omega) hWI
   refine⟨fin,hfin,semK_of (pf:=p177) rfl (by simp[p177]) ?_⟩
   simp only[owneds,owned,fWo]at e2
   generalize writeW w a b=r at*
   obtain⟨A,B,rfl⟩:=hfin
   cases A<;>cases B<;>simp (config:={maxSteps:=10000000}) [p177,md,e1,e3,e2]
 have hd1:(!true||decide (kind=1)&& !inB b 0 7)=false:=by simp[h1]
 rw[hd1]
 by_cases h2:kind=2\/kind=3\/kind=9
 ·obtain⟨fin,hfin,e2⟩:=ev_l12Two (PK:=PK) w kind a b h2 (by omega) hWI
  refine⟨fin,hfin,semK_of (pf:=p177) rfl (by simp[p177]) ?_⟩
  rw[if_neg (by simp),if_neg h1,if_pos h2]
  simp only[owneds,owned,fWo,lents,lent,fD]at e2
  generalize twoW w kind a b=r at*
  obtain⟨A,B,rfl⟩:=hfin
  rcases h2 with rfl|rfl|rfl<;>cases A<;>cases B<;>simp (config:={maxSteps:=10000000}) [p177,md,e1,e2]
 by_cases h4:kind=4\/kind=5\/kind=6
 ·obtain⟨fin,hfin,e2⟩:=ev_l12Fall (PK:=PK) w kind a b (by omega) (worldOk_Dn hok hw (by omega))
  refine⟨fin,fin1_2 hfin,semK_of (pf:=p177) rfl (by simp[p177]) ?_⟩
  rw[if_neg (by simp),if_neg h1,if_neg h2,if_pos h4]
  simp only[owneds,owned,fWo,lents,lent,fD]at e2
  generalize fallW w kind a b=r at*
  rcases h4 with rfl|rfl|rfl<;>rcases hfin with rfl|⟨rows,rfl⟩<;>simp (config:={maxSteps:=10000000}) [p177,md,e1,e2]
 have hk2:kind=10\/kind=11\/kind=12:=by omega
 rw[if_neg (by simp),if_neg h1,if_neg h2,if_neg h4]
 by_cases ha2:(a:Int)=2
 ·have ha2':a=2:=by omega
  subst ha2'
  have e2:=ev_l12Role2 (PK:=PK) w kind b
  refine⟨_,nfin,semK_of (pf:=p177) rfl (by simp[p177]) ?_⟩
  rw[if_pos ha2]
  rw[show ((2:Nat):Int)=2 from rfl]at e1 ⊢
  simp only[owneds,owned,fWo,lents,lent,fD]at e2
  rcases hk2 with rfl|rfl|rfl<;>simp (config:={maxSteps:=10000000}) [p177,md,e1,e2]
 ·obtain⟨fin,hfin,e2⟩:=ev_l12Role (PK:=PK) w kind b a (1 - a) (by omega) hWI (worldOk_gen hok)
  refine⟨fin,hfin,semK_of (pf:=p177) rfl (by simp[p177]) ?_⟩
  rw[if_neg ha2]
  simp only[owneds,owned,fWo,lents,lent,fD]at e2
  generalize roleW w kind a (1 - a)=r at*
  obtain⟨A,B,rfl⟩:=hfin
  rcases hk2 with rfl|rfl|rfl<;>cases A<;>cases B<;>simp (config:={maxSteps:=10000000}) [p177,md,e1,e2]
end Go.Proofs.YtbolhfegdocpeaaGreat.Ow
namespace Go.Proofs.YtbolhfegdocpeaaGreat.Ow
open Go
set_option linter.unusedVariables false
set_option linter.unusedSimpArgs false
set_option maxHeartbeats 4000000
variable {PK:Nat->List Arg->Option Res}
structure WK (w:WorldD):Prop where
 n3:w.nodes.length=3
 node: ∀x∈w.nodes,nB x
 net:w.net.length<=2000
 wire: ∀x∈w.net,byt x.bytes
 log:w.log.length<=2000
 safe:w.safe.length<=2000
theorem WK.S {w:WorldD} (h:WK w):wS w:=⟨by have:=h.n3;omega,fun x hx=>(h.node x hx).nS,by have:=h.net;omega,h.wire,by have:=h.log;omega,by have:=h.safe;omega⟩
theorem WI.K {w:WorldD} (h:WI w):WK w:=⟨h.n3,fun x hx=>(h.node x hx).b,by have:=h.net;omega,h.wire,by have:=h.log;omega,by have:=h.safe;omega⟩
theorem WK.L {w:WorldD} (h:WK w):WL w:=⟨h.n3,fun x hx=>⟨(h.node x hx).conn,(h.node x hx).copies,(h.node x hx).sync⟩,h.net⟩
theorem WK.nd {w:WorldD} (h:WK w) {i:Nat} (hi:i<3):nB (Ow.nd w i):=h.node _ (nd_mem (by have:=h.n3;omega))
theorem set_WK {w:WorldD} {k:Nat} {n:NodeD} (h:WK w) (hn:nB n):WK {w with nodes:=w.nodes.set k n}:=by
 refine⟨by simp only[List.length_set];exact h.n3,fun x hx=> ?_,h.net,h.wire,h.log,h.safe⟩
 rcases List.mem_or_eq_of_mem_set hx with hx|rfl
 ·exact h.node x hx
 ·exact hn
theorem cutN_nB {n:NodeD} {k:Nat} (h:nB n):nB (cutN n k):=
 ⟨h.image,h.gens,h.bits,h.bit,h.sl,by unfold cutN;simp only[List.length_set];exact h.conn,by unfold cutN;simp only[List.length_set];exact h.sync,fun x hx=>by
  rcases List.mem_or_eq_of_mem_set hx with hx|rfl
  ·exact h.syn x hx
  ·simp,by unfold cutN;simp only[List.length_set];exact h.copies,h.wait⟩
theorem cutW_WK {w:WorldD} {a b:Nat} (h:WK w) (ha:a<3) (hb:b<3):WK (cutW w a b):=by
 have h1:WK {w with nodes:=w.nodes.set a (cutN (Ow.nd w a) b)}:=set_WK h (cutN_nB (h.nd ha))
 have h2:=set_WK (k:=b) h1 (cutN_nB (k:=a) (h.nd hb))
 exact⟨h2.n3,h2.node,by have:=List.length_filter_le (keepW a b) w.net;have:=h.net;unfold cutW;simp only;omega,fun x hx=>h.wire x (List.mem_filter.1 hx).1,h.log,h.safe⟩
theorem lineB_byt (a b:Int) (m:MsgD):byt (lineB a b m):=by
 unfold lineB
 split
 ·exact⟨by have:=squeeze_len (packF [m]);unfold pack;omega,squeeze_by _ (packF_by _)⟩
 ·exact⟨by have:=msgBytes_len m;omega,msgBytes_by m⟩
theorem sendF_WK {w:WorldD} {p:PostD} (h:WK w) (hp:post3 p):WK (sendF w p):=by
 have hl:=sendF_WL h.L hp
 obtain⟨i,k,hi,hk,_,h1,h2,_⟩:=hp
 unfold sendF at hl ⊢
 rw[h1,h2]at hl ⊢
 simp only[Int.toNat_natCast]at hl ⊢
 split
 ·split
  ·exact cutW_WK h hi hk
  ·rename_i h3 h4
   refine⟨h.n3,h.node,by simp only[List.length_append,List.length_cons,List.length_nil];omega,fun x hx=> ?_,h.log,h.safe⟩
   rcases List.mem_append.1 hx with hx|hx
   ·exact h.wire x hx
   ·rw[List.mem_singleton.1 hx];exact lineB_byt _ _ _
 ·exact h
theorem sendW_WK {l:List PostD} (hp: ∀p∈l,post3 p): ∀ {w:WorldD},WK w->WK (sendW w l):=by
 induction l with
 |nil=>intro w h;exact h
 |cons p l ih=>
  intro w h
  exact ih (fun q hq=>hp q (List.mem_cons_of_mem _ hq)) (sendF_WK h (hp p List.mem_cons_self))
theorem fallN_nB {n:NodeD} (h:nB n):nB (fallN n):=by
 unfold fallN
 split
 ·exact⟨h.image,h.gens,h.bits,h.bit,h.sl,rfl,rfl,fun x hx=>by simp[downN]at hx;subst hx;simp,rfl,by simp[downN]⟩
 ·exact h
theorem riseN_nB {n:NodeD} (h:nB n):nB (riseN n):=by
 unfold riseN
 split
 ·exact h
 ·rename_i hc
  have hk:nodeOk n=true:=by
   cases hk:nodeOk n
   ·simp[hk]at hc
   ·rfl
  have hs:=(nodeOk_of hk).same
  exact⟨h.image,by simp only[hs];exact h.gens,by simp only[hs];exact h.bits,by simp only[hs];exact h.bit,h.sl,h.conn,h.sync,h.syn,h.copies,h.wait⟩
theorem joinN_nB {s t:NodeD} (hs:nB s) (ht:nB t):nB (joinN s t).1/\nB (joinN s t).2.1:=by
 unfold joinN
 split
 ·exact⟨joinA_nB hs,joinB_nB ht⟩
 ·exact⟨hs,ht⟩
theorem joinW1_WK {w:WorldD} {a b:Nat} (h:WK w) (ha:a<3) (hb:b<3):WK (joinW1 w a b).1:=by
 unfold joinW1
 obtain⟨h1,h2⟩:=joinN_nB (h.nd ha) (h.nd hb)
 split
 ·exact set_WK (w:={w with nodes:=w.nodes.set a (joinN (Ow.nd w a) (Ow.nd w b)).1}) (set_WK h h1) h2
 ·exact h
theorem joinW_WK {w:WorldD} {a b:Nat} (h:WK w) (ha:a<3) (hb:b<3):WK (joinW w a b).1:=by
 unfold joinW
 split
 ·exact h
 ·split
  ·exact joinW1_WK h hb ha
  ·exact joinW1_WK h ha hb
theorem sure_WK {w:WorldD} {l:List Int} (h:WK w) (hs:w.safe.length+l.length<=2000):WK (sureW w l):=
 ⟨h.n3,h.node,h.net,h.wire,h.log,by have:=sure_len l w.safe;unfold sureW;simp only;omega⟩
theorem write1_WK {w:WorldD} {a:Nat} {cell:Int} (h:WI w) (ha:a<3):WK (write1 w a cell):=by
 unfold write1
 simp only
 have hr:=writeN_nC (cell:=cell) (val:=(w.log.length+1:Nat)) (h.nd ha)
 have hps:=writeN_posts (cell:=cell) (val:=(w.log.length+1:Nat)) (i:=a) (h.id a ha) ha
 have h3:WK {w with log:=w.log++[⟨cell,(nd w a).mt.last⟩],nodes:=w.nodes.set a (writeN (nd w a) cell (w.log.length+1:Nat)).1}:=by
  have h2:=set_WK (k:=a) h.K hr.1
  exact⟨h2.n3,h2.node,h2.net,h2.wire,by have:=h.log;simp only[List.length_append,List.length_cons,List.length_nil];omega,h2.safe⟩
 split
 ·exact sendW_WK hps h3
 ·exact sendW_WK hps (sure_WK h3 (by have:=h.safe;simp only[List.length_cons,List.length_nil];omega))
theorem writeW_WK {w:WorldD} {a:Nat} {cell:Int} (h:WI w) (ha:a<3):WK (writeW w a cell).1:=by
 unfold writeW
 split
 ·exact h.K
 ·split
  ·exact h.K
  ·rename_i hm _
   have h1:WI (if writeG w a then cutW w a 2 else w):=by
    split
    ·have hm':mayWrite (nd w a)=true:=by simpa using hm
     obtain⟨nx,hpr⟩:=mayWrite_of hm'
     have ha2:a≠2:=by
      have:=nx.prime hpr
      have hid:=h.id a ha
      intro e
      subst e
      exact this.2 hid
     exact cutW_WI h ha (by omega) ha2
    ·exact h
   generalize (if writeG w a=true then cutW w a 2 else w)=v at h1 ⊢
   split
   ·exact h1.K
   ·exact write1_WK h1 ha
theorem dnF_WK {a:Nat} (ha:a<3) {s:SdS} {k:Nat} (hk:k<3) (h:WK s.w):WK (dnF a s k).w:=by
 unfold dnF
 split
 ·exact cutW_WK h ha hk
 ·exact h
theorem downs_WK {w:WorldD} {a:Nat} (ha:a<3) (h:WK w): ∀j,j<=3->WK ((List.range j).foldl (dnF a) ⟨w,0,[]⟩).w
 |0,_=>h
 |j+1,hj=>by rw[range_foldl];exact dnF_WK ha (by omega) (downs_WK ha h j (by omega))
theorem downW_WK {w:WorldD} {a:Nat} (ha:a<3) (h:WK w):WK (downW w a):=by
 have h1:=downs_WK ha h 3 (by omega)
 exact set_WK (w:=(downs w a).w) h1 (fallN_nB (h1.nd ha))
theorem fallW_WK {w:WorldD} {kind:Int} {a:Nat} {b:Int} (h:WI w) (ha:a<3):WK (fallW w kind a b).1:=by
 unfold fallW
 split
 ·split
  ·exact h.K
  ·exact set_WK h.K (riseN_nB (h.K.nd ha))
 ·split
  ·exact h.K
  ·rename_i hc
   refine downW_WK ha ?_
   split
   ·rename_i h6
    have hb:b<=155:=by
     cases hb:inB b 0 155
     ·exfalso;apply hc;simp[h6,hb]
     ·exact(inB_iff.1 hb).2
    exact set_WK h.K (tornN_nC (h.nd ha) hb).b
   ·exact h.K
theorem copiesW_WK {w:WorldD} {a b:Nat} (h:WI w) (ha:a<3) (hb:b<3):WK (copiesW w a b).1:=by
 unfold copiesW
 split
 ·exact h.K
 ·split
  ·exact h.K
  ·exact sendW_WK (copyN_posts (h.id a ha) ha hb (by have:=(h.nd ha).gens;omega)) (set_WK h.K (copyN_nB (h.nd ha)).1)
theorem hold1_nB {x y:NodeD} {g:Int} (hx:nC x) (hy:nC y):nB (hold1 x y g).1/\nB (hold1 x y g).2.1:=by
 have gl:=genPush_len x.mt.gens g
 have hg:=hx.gens
 have kx:=slot_nB hx.b {x.mt with held:=true,gens:=genPush x.mt.gens g} (by simp only;omega) hx.b.bits hx.b.bit
 have ky:=slot_nB hy.b {y.mt with old:=true,held:=false} hy.b.gens hy.b.bits hy.b.bit
 unfold hold1
 split
 ·exact⟨⟨kx.image,kx.gens,kx.bits,kx.bit,kx.sl,kx.conn,kx.sync,kx.syn,kx.copies,by simp[holdA]⟩,ky⟩
 ·exact⟨hx.b,hy.b⟩
theorem roleW_WK {w:WorldD} {kind:Int} {a b:Nat} (h:WI w) (ha:a<3) (hb:b<3):WK (roleW w kind a b).1:=by
 unfold roleW
 split
 ·obtain⟨h1,h2⟩:=hold1_nB (g:=w.gen) (h.nd ha) (h.nd hb)
  split
  ·have h3:=set_WK (k:=b) (set_WK (k:=a) h.K h1) h2
   refine⟨h3.n3,h3.node,h3.net,h3.wire,h3.log,?_⟩
   have:=sure_len (nd w a).wait w.safe
   have:=(h.nd ha).wait
   have:=h.safe
   simp only
   omega
  ·exact h.K
 ·split
  ·split
   ·refine set_WK h.K ?_
    have hn:=h.K.nd ha
    unfold lead1
    split
    ·exact⟨hn.image,hn.gens,hn.bits,hn.bit,hn.sl,hn.conn,hn.sync,hn.syn,hn.copies,hn.wait⟩
    ·exact hn
   ·exact h.K
  ·split
   ·refine set_WK h.K ?_
    have hn:=h.K.nd ha
    unfold leave1
    split
    ·exact⟨hn.image,hn.gens,hn.bits,hn.bit,hn.sl,hn.conn,hn.sync,hn.syn,hn.copies,by simp⟩
    ·exact hn
   ·exact h.K
theorem twoW_WK {w:WorldD} {kind:Int} {a:Nat} {b:Int} (h:WI w) (ha:a<3):WK (twoW w kind a b).1:=by
 unfold twoW
 split
 ·exact h.K
 ·rename_i hc
  have hb:b.toNat<3:=by
   cases hb:inB b 0 2
   ·exfalso;apply hc;simp[hb]
   ·have:=inB_iff.1 hb;omega
  split
  ·exact joinW_WK h.K ha hb
  ·split
   ·exact copiesW_WK h ha hb
   ·split
    ·exact h.K
    ·exact cutW_WK h.K ha hb
theorem giveW_WK {w:WorldD} {kind a:Int} (hok:worldOk w=true) (hw:wS w):WK (giveW w kind a).1:=by
 have h:=worldOk_WI hok hw
 unfold giveW
 split
 ·exact h.K
 ·rename_i hb
  have hb1:=inB_iff.1 (show inB a 0 ((w.net.length:Int) - 1)=true by simpa using hb)
  split
  ·split
   ·exact h.K
   ·refine⟨h.K.n3,h.K.node,by simp only[List.length_set];exact h.K.net,fun x hx=> ?_,h.K.log,h.K.safe⟩
    rcases List.mem_or_eq_of_mem_set hx with hx|rfl
    ·exact h.wire x hx
    ·obtain⟨x,_,_,_,hd,hm⟩:=get_ex w.net zW (j:=a.toNat) (by omega)
     rw[hd]
     have:=h.wire x hm
     exact⟨by simp only[List.length_dropLast];have:=this.1;omega,fun y hy=>this.2 y (by rw[List.dropLast_eq_take]at hy;exact List.mem_of_mem_take hy)⟩
  ·simp only
   have hle:=lineAt_le (w:=w) (k:=a.toNat) (by omega)
   obtain⟨i,q,hi1,hq1,hi,hq,hiq,_⟩:=worldOk_line hok (j:=lineAt w a.toNat) (by omega)
   have h1:WK {w with net:=w.net.take (lineAt w a.toNat)++w.net.drop (lineAt w a.toNat+1)}:=by
    refine⟨h.K.n3,h.K.node,?_,fun x hx=> ?_,h.K.log,h.K.safe⟩
    ·have:=h.net
     simp only[List.length_append,List.length_take,List.length_drop]
     omega
    ·rcases List.mem_append.1 hx with hx|hx
     ·exact h.wire x (List.mem_of_mem_take hx)
     ·exact h.wire x (List.mem_of_mem_drop hx)
   rw[hi1,hq1]
   split
   ·exact cutW_WK h1 hi hq
   ·rename_i m hm
    have hg:=readW_gens hm
    unfold give1
    simp only[hi1,hq1,Int.toNat_natCast]
    have hnq:=h.nd hq
    simp only[show ∀N:List WireD,nd {w with net:=N} q=nd w q from fun _=>rfl]
    refine sendW_WK (hearN_posts (i:=q) (h.id q hq) hq) (sure_WK (set_WK h1 (hearN_nB hnq (by omega))) ?_)
    have:=List.length_filter_le (fun n=> !decide (n∈(hearN (nd w q) i m).1.wait)) (nd w q).wait
    have:=hnq.wait
    have:=h.safe
    simp only
    omega
theorem oneW_WK {w:WorldD} {d:DeedD} (hok:worldOk w=true) (hw:wS w):WK (oneW w d).1:=by
 have h:=worldOk_WI hok hw
 unfold oneW
 split
 ·exact giveW_WK hok hw
 ·split
  ·exact h.K
  ·rename_i hc
   have ha:inB d.a 0 2=true:=by
    cases ha:inB d.a 0 2
    ·exfalso;apply hc;simp[ha]
    ·rfl
   have ha1:=inB_iff.1 ha
   split
   ·exact writeW_WK h (by omega)
   ·split
    ·exact twoW_WK h (by omega)
    ·split
     ·exact fallW_WK h (by omega)
     ·split
      ·exact h.K
      ·exact roleW_WK h (by omega) (by omega)
end Go.Proofs.YtbolhfegdocpeaaGreat.Ow
namespace Go.Proofs.YtbolhfegdocpeaaGreat.Ow
open Go
set_option linter.unusedVariables false
set_option linter.unusedSimpArgs false
set_option maxHeartbeats 8000000
variable {PK:Nat->List Arg->Option Res}
def zWo:WorldD:=⟨[],[],[],[],0⟩
def doW (w:WorldD) (d:DeedD):WorldD×Int:=
 if !worldOk w|| !inB d.kind 1 12 then(zWo,1)
 else if(oneW w d).2=0 then(if worldOk (oneW w d).1 then((oneW w d).1,0)else(w,4))else(w,(oneW w d).2)
theorem ev_spec_Do (w:WorldD) (d:DeedD) (hw:wS w):semK G PK md 149 [.a (lents (fWo w)),.a (lents (fD d))]=some ⟨[.a (owneds (fWo (doW w d).1)),.v (.sc (.int .i64 (doW w d).2))],[],[]⟩:=by
 refine semK_of (pf:=p149) rfl (by simp[p149]) ?_
 have e1:=ev_spec_WorldOk (PK:=PK) w hw
 have e2:=ev_l1In (PK:=PK) d.kind 1 12
 unfold doW
 simp only[lents,lent,fWo]at e1
 cases hok:worldOk w
 ·rw[hok]at e1
  simp[p149,md,e1,zWo]
 rw[hok]at e1
 cases hk:inB d.kind 1 12
 ·rw[hk]at e2
  simp[p149,md,e1,e2,zWo]
 rw[hk]at e2
 have hkb:=inB_iff.1 hk
 have hWI:=worldOk_WI hok hw
 have e3:=ev_l12Copy (PK:=PK) w hw (by have:=hWI.n3;omega)
 obtain⟨fin,hfin,e4⟩:=ev_l12One (PK:=PK) w d (by omega) hok hw
 have hS:=(oneW_WK (d:=d) hok hw).S
 have e5:=ev_spec_WorldOk (PK:=PK) (oneW w d).1 hS
 simp only[lents,lent,owneds,owned,fWo,fD]at e3 e4 e5
 generalize oneW w d=r at*
 obtain⟨v,c⟩:=r
 obtain⟨A,B,rfl⟩:=hfin
 simp only at e4 e5 ⊢
 by_cases hc:c=0
 ·subst hc
  cases hv:worldOk v
  ·rw[hv]at e5
   cases A<;>cases B<;>simp[p149,md,e1,e2,e3,e4,e5,Alike2]
  ·rw[hv]at e5
   cases A<;>cases B<;>simp[p149,md,e1,e2,e3,e4,e5,Alike2]
 ·cases A<;>cases B<;>simp[p149,md,e1,e2,e3,e4,hc,Alike2]
end Go.Proofs.YtbolhfegdocpeaaGreat.Ow
namespace Go.Proofs.YtbolhfegdocpeaaGreat.Ow
open Go
set_option linter.unusedVariables false
set_option linter.unusedSimpArgs false
set_option maxHeartbeats 4000000
variable {PK:Nat->List Arg->Option Res}
def newM:MetaD:=⟨[1],[[],[],[]],true,false,false,0⟩
theorem newM_S:mtS newM:=by
 refine⟨by decide,by decide,?_⟩
 intro l hl
 simp[newM]at hl
 subst hl
 exact Nat.zero_le _
theorem newM_ok:metaOk newM=true:=by decide
theorem ev_spec_MetaNew:semK G PK md 175 [.v (.sc (.int .i64 1))]=some ⟨[.a (owneds (fM newM))],[],[]⟩:=by
 refine semK_of (pf:=p175) rfl (by simp[p175]) ?_
 have e:=ev_spec_MetaOk (PK:=PK) newM newM_S
 rw[newM_ok]at e
 simp only[lents,lent,fM,newM,List.map,enc,fII,fI]at e
 simp[p175,md,newM,enc,fII,List.replicate,e]
end Go.Proofs.YtbolhfegdocpeaaGreat.Ow
namespace Go.Proofs.YtbolhfegdocpeaaGreat.Ow
open Go
set_option linter.unusedVariables false
set_option linter.unusedSimpArgs false
set_option maxHeartbeats 4000000
variable {PK:Nat->List Arg->Option Res}
def newN (i:Nat):NodeD:=⟨i,true,false,List.replicate 8 0,newM,slotPut ⟨[],[]⟩ newM,[false,false,false],[[],[],[]],[false,false,false],[]⟩
theorem ev_isNodeN (x:Int):semK G PK md 64 [.v (.sc (.int .i64 x))]=some ⟨[.v (.sc (.bool (inB x 0 2)))],[],[]⟩:=by
 refine semK_of (pf:=p64) rfl (by simp[p64]) ?_
 have e:=ev_from (PK:=PK) x 0 2
 simp[p64,md,e]
theorem sl0_S:slS ⟨[],[]⟩:=⟨⟨by decide,by intro x h;cases h⟩,⟨by decide,by intro x h;cases h⟩⟩
theorem ev_spec_NodeNew (i:Nat) (hi:i<3):semK G PK md 176 [.v (.sc (.int .i64 i))]=some ⟨[.a (owneds (fN (newN i)))],[],[]⟩:=by
 refine semK_of (pf:=p176) rfl (by simp[p176]) ?_
 have e1:=ev_l1In (PK:=PK) i 0 2
 have e2:=ev_spec_MetaNew (PK:=PK)
 have e3:=ev_spec_ImageNew (PK:=PK)
 have e4:=ev_spec_SlotPut (PK:=PK) ⟨[],[]⟩ newM sl0_S newM_S
 have hr:inB (i:Int) 0 2=true:=inB_iff.2 ⟨by omega,by omega⟩
 rw[hr]at e1
 have h8:enc fI (List.replicate 8 0)=List.replicate 8 [T.sc (.int .i64 0)]:=rfl
 have hn:enc fU ([]:List Int)=[]:=rfl
 simp only[lents,lent,fM,fSl,List.map,hn]at e2 e4
 unfold newN
 generalize slotPut ⟨[],[]⟩ newM=sp at*
 generalize newM=m at*
 generalize enc fI (List.replicate 8 0)=img at*
 simp (config:={maxSteps:=10000000}) [p176,md,e1,e2,e3,e4,Alike2]
 exact h8
end Go.Proofs.YtbolhfegdocpeaaGreat.Ow
namespace Go.Proofs.YtbolhfegdocpeaaGreat.Ow
open Go
set_option linter.unusedVariables false
set_option linter.unusedSimpArgs false
set_option maxHeartbeats 4000000
variable {PK:Nat->List Arg->Option Res}
def newW:WorldD:=⟨[newN 0,newN 1,newN 2],[],[],[],2⟩
@[simp] def st32_0:Nat->St
 |0=>{n:=16,m:=0,tm:=[(0,.pb 10000000 0),(1,.pb 10000001 0),(2,.sc (.int .i64 0))],ob:=[(10000000,.box [.nil 16,.nil 3,.nil 2,.nil 1,.sc (.int .i64 0)]),(10000001,.box [.nil 16,.nil 3,.nil 2,.nil 1,.sc (.int .i64 2)])]}
 |j+1=>{n:=16,m:=0,tm:=[(0,.pb 10000000 0),(1,.pb 10000001 0),(2,.sc (.int .i64 ((j:Int)+1)))],ob:=[(10000000,.box [.nil 16,.nil 3,.nil 2,.nil 1,.sc (.int .i64 0)]),(10000001,.box [.ref 10000002 [],.nil 3,.nil 2,.nil 1,.sc (.int .i64 2)]),(10000002,.arr 16 ((List.range (j+1)).map fun i=>fN (newN i)))]}
theorem ev_spec_WorldNew:semK G PK md 148 []=some ⟨[.a (owneds (fWo newW))],[],[]⟩:=by
 refine semK_of (pf:=p148) rfl (by simp[p148]) ?_
 have e0:=ev_spec_NodeNew (PK:=PK) 0 (by omega)
 have e1:=ev_spec_NodeNew (PK:=PK) 1 (by omega)
 have e2:=ev_spec_NodeNew (PK:=PK) 2 (by omega)
 unfold newW
 rw[show ((0:Nat):Int)=0 from rfl]at e0
 rw[show ((1:Nat):Int)=1 from rfl]at e1
 rw[show ((2:Nat):Int)=2 from rfl]at e2
 have hs0:=loop_ok (G:=G) (PK:=PK) (md:=md) (o:=10000000) (live:=[0,1,2]) (c:=b148_0) st32_0 3 (fun j hj=>by
  rcases j with _|_|_|j
  ·simp[b148_0,md,e0]
   all_goals rfl
  ·simp[b148_0,md,e1]
   all_goals (first|exact⟨rfl,rfl⟩|rfl)
  ·simp[b148_0,md,e2]
   all_goals (first|exact⟨rfl,rfl⟩|rfl)
  ·omega) (by simp[b148_0])
 simp[p148,md]
 rw[hs0]
 ·simp[b148_0]
  all_goals rfl
 ·simp
 ·simp
@[simp] def st33_0:Nat->St
 |0=>{n:=16,m:=0,tm:=[(0,.pb 10000000 0),(1,.pb 10000001 0),(4,.sc (.int .i64 0))],ob:=[(10000000,.box [.nil 16,.nil 3,.nil 2,.nil 1,.sc (.int .i64 0)]),(10000001,.box [.nil 16,.nil 3,.nil 2,.nil 1,.sc (.int .i64 2)])]}
 |j+1=>{n:=16,m:=0,tm:=[(0,.pb 10000000 0),(1,.pb 10000001 0),(4,.sc (.int .i64 ((j:Int)+1)))],ob:=[(10000000,.box [.nil 16,.nil 3,.nil 2,.nil 1,.sc (.int .i64 0)]),(10000001,.box [.ref 10000002 [],.nil 3,.nil 2,.nil 1,.sc (.int .i64 2)]),(10000002,.arr 16 ((List.range (j+1)).map fun i=>fN (newN i)))]}
end Go.Proofs.YtbolhfegdocpeaaGreat.Ow
