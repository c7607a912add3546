/- slices.Delete of wires: what a call of it does. -/
import Derived.Test.YtghgecpicnfgpaaGreatProg
import Derived.Test.YtghgecpicnfgpaaGreatDelM
import Derived.WalkKit
import Derived.Deep.RegionLaw
import Derived.Lib.Walk
import Derived.Lib.SliceRun
import Derived.Shelf.RegionOpenPlain
namespace Go.Proofs.YtghgecpicnfgpaaGreat.Ow
open Go Go.RowKit Go.Lib
set_option linter.unusedVariables false
set_option linter.unusedSimpArgs false
set_option maxHeartbeats 4000000
set_option maxRecDepth 1000000
theorem delU:Tryz.prog.underlying 25=some (.slice 85):=by kernel_rfl
theorem delZ:Bc Tryz.prog 85=some [.sc (.int .i64 0),.sc (.int .i64 0),.nil 1]:=by kernel_rfl
theorem delS:Bk Tryz.prog 85=some 3:=by kernel_rfl
theorem delC:DelC Tryz.prog 157 3:=by
 intro b off n c i j us w hij hjn hnc hc9 hW hcell
 obtain⟨news,hnews⟩: ∃news,news=(List.range ((n - j)*3)).map λx=>us (j*3+x):=⟨_,rfl⟩
 have hlen:news.length=(n - j)*3:=by rw[hnews];simp
 have hget: ∀t u,news[t]? =some u->t<(n - j)*3/\u=us (j*3+t):=by
  intro t u hu
  have ht:=(List.getElem?_eq_some_iff.1 hu).1
  rw[hlen]at ht
  rw[hnews,List.getElem?_map,List.getElem?_range ht]at hu
  exact⟨ht,(Option.some.inj hu).symm⟩
 obtain⟨A,hA,hsrc⟩: ∃A:Addr,(if c=j then some (⟨b,off,none⟩:Addr)else some ⟨b,off+j*3,none⟩)=some A/\Hid (∀t u,news[t]? =some u->w.drew.cell? (A.add t)=some u):=by
  by_cases h:c=j
  ·refine⟨⟨b,off,none⟩,by simp[h],λt u hu=> ?_⟩
   have:=(hget t u hu).1
   omega
  ·refine⟨⟨b,off+j*3,none⟩,by simp[h],λt u hu=> ?_⟩
   obtain⟨h1,h2⟩:=hget t u hu
   rw[h2,Addr.add_lit,show off+j*3+t=off+(j*3+t)by omega]
   exact(hcell (j*3+t) (by omega)).1
 have s1:Hid (news.length=(n - j)*3):=hlen
 have s2:Hid (∀u∈news,u.oneCell'=true):=by
  intro u hu
  obtain⟨t,ht⟩:=List.getElem?_of_mem hu
  obtain⟨h1,h2⟩:=hget t u ht
  rw[h2]
  exact(hcell _ (by omega)).2
 have s3:Hid (∀t,t<news.length->(w.drew.cell? ⟨b,off+i*3+t,none⟩).isSome=true/\w.drew.frozen? ⟨b,off+i*3+t,none⟩=false):=by
  intro t ht
  rw[hlen]at ht
  rw[Nat.add_assoc]
  obtain⟨⟨u,hu⟩,hf⟩:=hW (i*3+t) (by omega)
  exact⟨by show (w.cell? _).isSome=true;rw[hu];rfl,hf _⟩
 obtain⟨W1,hW1⟩: ∃W1,W1=w.drew.setCells b (off+i*3) news:=⟨_,rfl⟩
 have hc1: ∀x,x<c*3->(W1.cell? ⟨b,off+x,none⟩).isSome=true/\W1.frozen? ⟨b,off+x,none⟩=false:=by
  intro x hx
  obtain⟨⟨u,hu⟩,hf⟩:=hW x hx
  rw[hW1]
  exact⟨Md b _ _ _ _ (by show (w.cell? _).isSome=true;rw[hu];rfl),(SL b _ _ _ _).trans (hf _)⟩
 obtain⟨zv,hz1,hz2,hz3⟩: ∃zv:Value,(∀w,(zeroValue 85).run Tryz.prog w= .ok zv w)/\zv.cells.size=3/\ ∀u∈zv.cells.toList,u.oneCell'=true:=zeroOne delZ (by simp)
 have hcl: ∀ty,∃zs:List Value,zs.length=(j - i)*3/\(Builtin.clear_ #[25] ty #[.slice (some ⟨b,off+(i+(n - j))*3,none⟩) (n - (i+(n - j))) (c - (i+(n - j)))]).run Tryz.prog W1= .ok (.tuple #[]) (W1.setCells b (off+(i+(n - j))*3) zs):=λty=>by
  have h:=Tz (z:=zv) delU hz1 hz2 hz3 ty b (off+(i+(n - j))*3) (n - (i+(n - j))) (c - (i+(n - j))) (by omega) W1 (λx hx=>by rw[Nat.add_assoc];exact(hc1 _ (by omega)).1) (λx hx=>by rw[Nat.add_assoc];exact(hc1 _ (by omega)).2)
  rwa [show (n - (i+(n - j)))=j - i by omega]at h ⊢
 obtain⟨i0,hi0,hi3⟩: ∃i0,Tryz.prog.info? 85=some i0/\i0.size=3:=by
  have h:=delS
  unfold Bk at h
  cases hh:Tryz.prog.info? 85 with
  |none=>rw[hh]at h;cases h
  |some i0=>rw[hh]at h;exact⟨i0,rfl,Option.some.inj h⟩
 obtain⟨zs,hzl,hcl⟩: ∃zs:List Value,zs.length=(j - i)*3/\ ∀ty,(Builtin.clear_ #[25] ty #[.slice (some ⟨b,off+(i+(n - j))*3,none⟩) (n - (i+(n - j))) (c - (i+(n - j)))]).run Tryz.prog W1= .ok (.tuple #[]) (W1.setCells b (off+(i+(n - j))*3) zs):=by
  obtain⟨zs,h1,h2⟩:=hcl 0
  exact⟨zs,h1,λty=>h2⟩
 have hW':Hid (W1=w.drew.setCells b (off+i*3) news):=hW1
 have hic:i<=c:=by omega
 have hjc:j<=c:=by omega
 clear hW1 hget hlen hcell hW hc1
 have mixed:Tryz.prog.follows Departure.mixedOrders=true:=by kernel_rfl
 have hdU:=delU
 go_enter Tryz.func157,Tryz.ntmps157
 go_wp2_with fail
 go_region_law_o (refine step_append_room rfl (.tmp 22) (.tmp 25) 25 rfl 85 i0 3 delU hi0 hi3 b off i c (by simp[Act.eval,Act.put]) A (n - j) (c - j) news (by simp[Act.eval,Act.put]) s1.out hsrc.out s2.out (by omega) s3.out ?_;rw[<-hW'.out])
 go_wp2
 go_ret
 refine⟨rfl,zs,hzl,?_⟩
 rw[hW'.out,hnews]
end Go.Proofs.YtghgecpicnfgpaaGreat.Ow
