/- What is given from a wire: what the reference makes of a world; sizes. -/
import Derived.Test.YtbolhfegdocpeaaGreatEv18
import Derived.Test.YtbolhfegdocpeaaGreatEv15
namespace Go.Proofs.YtbolhfegdocpeaaGreat.Ow
open Go
set_option linter.unusedVariables false
set_option linter.unusedSimpArgs false
set_option maxHeartbeats 16000000
variable {PK:Nat->List Arg->Option Res}
def sameLine (x y:WireD):Bool:=decide (x.src=y.src)&&decide (x.dst=y.dst)
def lineAt (w:WorldD) (k:Nat):Nat:=firstN (fun j=> !sameLine (w.net.getD j zW) (w.net.getD k zW)) w.net.length 0
def give1 (w:WorldD) (x:WireD) (m:MsgD):WorldD:=
 let r:=hearN (nd w x.dst.toNat) x.src m
 sendW (sureW {w with nodes:=w.nodes.set x.dst.toNat r.1} ((nd w x.dst.toNat).wait.filter fun n=> !decide (n∈r.1.wait))) r.2
def giveW (w:WorldD) (kind a:Int):WorldD×Int:=
 if !inB a 0 ((w.net.length:Int) - 1)then(w,2)
 else if kind=8 then(if(w.net.getD a.toNat zW).bytes.length=0 then(w,3)else({w with net:=w.net.set a.toNat {(w.net.getD a.toNat zW)with bytes:=(w.net.getD a.toNat zW).bytes.dropLast}},0))
 else
  let x:=w.net.getD (lineAt w a.toNat) zW
  let w1:WorldD:={w with net:=w.net.take (lineAt w a.toNat)++w.net.drop (lineAt w a.toNat+1)}
  match readW x with
  |none=>(cutW w1 x.src.toNat x.dst.toNat,0)
  |some m=>(give1 w1 x m,0)
theorem knownN_id (n:NodeD) (who cell val:Int):(knownN n who cell val).id=n.id:=by unfold knownN;split<;>rfl
theorem ackN_id (n:NodeD) (src:Int) (m:MsgD):(ackN n src m).id=n.id:=by
 unfold ackN
 split<;>exact knownN_id _ _ _ _
theorem hearN_posts {n:NodeD} {src:Int} {m:MsgD} {i:Nat} (hid:n.id=i) (hi:i<3): ∀p∈(hearN n src m).2,post3 p:=by
 intro p hp
 unfold hearN at hp
 split at hp
 ·rename_i hc
  simp only[hearG,Bool.and_eq_true]at hc
  obtain⟨⟨⟨⟨⟨h1,h2⟩,h3⟩,h4⟩,h5⟩,h6⟩:=hc
  have nn:=nodeOk_of h1
  have hs:=inB_iff.1 h3
  obtain⟨k,rfl⟩: ∃k:Nat,src=k:=⟨src.toNat,by omega⟩
  have hk:k<3:=by omega
  simp only[Int.toNat_natCast]at h4
  have hne:=(lk_get nn hk).2 h4
  rw[hid]at hne
  have hack:post3 (ackP n k m):=⟨i,k,hi,hk,by omega,hid,rfl,by simp[ackP]⟩
  unfold hear0 at hp
  split at hp
  ·rw[List.mem_singleton.1 hp];exact hack
  ·split at hp
   ·rw[List.mem_singleton.1 hp];exact hack
   ·split at hp
    ·cases hp
    ·split at hp
     ·simp only at hp
      split at hp
      ·cases hp
      ·rename_i k1 k4 k5 k2 k0
       have nn2:NOk (ackN n k m):=nodeOk_of (by unfold hear0 at h6;simpa[k1,k4,k5,k2]using h6)
       simp only[tos,List.mem_flatMap,List.mem_range]at hp
       obtain⟨j,hj,hp⟩:=hp
       unfold to1 at hp
       split at hp
       ·rename_i hc
        rw[List.mem_singleton.1 hp]
        have hid2:=(ackN_id n k m).trans hid
        have hne2:=(lk_get nn2 hj).2 hc.1
        rw[hid2]at hne2
        exact⟨i,j,hi,hj,by omega,hid2,rfl,by simp⟩
       ·cases hp
     ·split at hp<;>cases hp
 ·cases hp
theorem hearN_len {n:NodeD} {src:Int} {m:MsgD}:(hearN n src m).2.length<=3:=by
 unfold hearN
 split
 ·unfold hear0
  split
  ·simp
  ·split
   ·simp
   ·split
    ·simp
    ·split
     ·simp only
      split
      ·simp
      ·exact tos_len _ _ _ 3
     ·split<;>simp
 ·simp
theorem hearN_nB {n:NodeD} {src:Int} {m:MsgD} (hn:nC n) (hm:m.gens.length<=1000):nB (hearN n src m).1:=by
 unfold hearN
 split
 ·exact hear0_nB hn.b hn.bit hm
 ·exact hn.b
theorem wh_inv {α:Type} {g:α->Bool} {f:α->α} {Inv:α->Prop} (h: ∀a,Inv a->g a=true->Inv (f a)): ∀ (n:Nat) a,Inv a->Inv (wh g f n a)
 |0,a,ha=>ha
 |n+1,a,ha=>by
  simp only[wh]
  split
  ·rename_i hg;exact wh_inv h n _ (h a ha hg)
  ·exact ha
theorem unpack_gens {b:List Int} {l:List MsgD} (h:unpack b=some l): ∀m∈l,m.gens.length<=12:=by
 unfold unpack at h
 split at h
 ·cases h
  have:(unR b).at_<=((spread b).getD []).length/\ ∀m∈(unR b).out,m.gens.length<=12:=by
   unfold unR
   refine wh_inv (Inv:=fun(s:UnS)=>s.at_<=((spread b).getD []).length/\ ∀m∈s.out,m.gens.length<=12) (fun s hs hg=> ?_) _ _ ⟨Nat.zero_le _,fun m hm=>by cases hm⟩
   obtain⟨h1,h2⟩:=hs
   unfold unF
   split
   ·rename_i m n hm
    obtain⟨_,k2,_,k4⟩:=msgOf_bd h1 hm
    refine⟨k2,fun q hq=> ?_⟩
    rcases List.mem_append.1 hq with h|h
    ·exact h2 q h
    ·rw[List.mem_singleton.1 h];exact k4
   ·refine⟨Nat.zero_le _,fun q hq=> ?_⟩
    rcases List.mem_append.1 hq with h|h
    ·exact h2 q h
    ·rw[List.mem_singleton.1 h];simp[zMs]
  exact this.2
 ·cases h
theorem readW_gens {x:WireD} {m:MsgD} (h:readW x=some m):m.gens.length<=12:=by
 unfold readW at h
 split at h
 ·split at h
  ·rename_i m' hu;cases h;exact unpack_gens hu _ (by simp)
  ·cases h
 ·split at h
  ·rename_i m' n hm
   split at h
   ·cases h;exact(msgOf_bd (Nat.zero_le _) hm).2.2.2
   ·cases h
  ·cases h
theorem worldOk_line {w:WorldD} (h:worldOk w=true) {j:Nat} (hj:j<w.net.length): ∃i k:Nat,(w.net.getD j zW).src=i/\(w.net.getD j zW).dst=k/\i<3/\k<3/\i≠k/\(w.net.getD j zW).bytes.length<=400:=by
 rw[worldOk_eq]at h
 simp only[Bool.and_eq_true]at h
 have h1:=allB_get h.1.1.2 hj
 unfold wireP at h1
 simp only[Bool.and_eq_true,Bool.not_eq_true',decide_eq_false_iff_not,decide_eq_true_iff]at h1
 obtain⟨⟨⟨⟨a1,a2⟩,a3⟩,a4⟩,a5⟩:=h1
 have b1:=inB_iff.1 a1
 have b2:=inB_iff.1 a2
 exact⟨(w.net.getD j zW).src.toNat,(w.net.getD j zW).dst.toNat,by omega,by omega,by omega,by omega,by omega,a5⟩
@[simp] theorem set_W (l:List WireD) (k:Nat) (a b:Int) (s:List Int):(enc fW l).set k [.sc (.int .i64 a),.sc (.int .i64 b),.sl 1 (enc fU s)]=enc fW (l.set k ⟨a,b,s⟩):=by rw[←enc_set];rfl
def fWh (x:WireD):List T:=[.sc (.int .i64 x.src),.sc (.int .i64 x.dst),.hole]
theorem flat_W {l:List WireD} (h:l≠[]):flat (enc fW l)=false:=by
 cases l with
 |nil=>exact absurd rfl h
 |cons x l=>simp
theorem holed_W: ∀l:List WireD,holedR (enc fW l)=enc fWh l
 |[]=>rfl
 |x::l=>by simp only[enc_cons,holedR,holed_W l];rfl
@[simp] def obG (w:WorldD) (d:DeedD) (o:Nat):List (Nat×Obj):=[(0,.arr 16 (enc fN w.nodes)),(1,.arr 3 (enc fW w.net)),(2,.arr 2 (enc fR w.log)),(3,.arr 1 (enc fI w.safe)),(o,.box [.ref 0 [],.ref 1 [],.ref 2 [],.ref 3 [],.sc (.int .i64 w.gen)]),(o+1,.box [.sc (.int .i64 d.kind),.sc (.int .i64 d.a),.sc (.int .i64 d.b)]),(o+2,.box [.nil 16,.nil 3,.nil 2,.nil 1,.sc (.int .i64 0)])]
@[simp] def st186_1 (w:WorldD) (d:DeedD) (j:Nat):St:={n:=170,m:=4,tm:=[(2,.pb 10000000 0),(3,.pb 10000001 0),(4,.pb 10000002 0),(7,.sc (.int .i64 j))],ob:=obG w d 10000000}
theorem lineAt_le {w:WorldD} {k:Nat} (hk:k<w.net.length):lineAt w k<=k:=by
 obtain⟨n,hn1,hn2,hp,hend⟩:=firstN_ex (fun j=> !sameLine (w.net.getD j zW) (w.net.getD k zW)) w.net.length
 rw[show lineAt w k=n from hn1]
 rcases Nat.lt_or_ge k n with h|h
 ·have:=hp k h
  simp[sameLine]at this
 ·exact h
theorem lp_Give1 (w:WorldD) (kind b:Int) (k:Nat) (hk:k<w.net.length) (hn:w.net.length<=1000):lineAt w k<=k/\ ∀ (t:St),t.m<=10000000->canon 10000000 [2,3,4,7] t=st186_1 w ⟨kind,k,b⟩ 0->semL G PK md 10000000 [2,3,4,7] b186_1 t=some (.exit 0,{st186_1 w ⟨kind,k,b⟩ (lineAt w k)with tm:=(st186_1 w ⟨kind,k,b⟩ (lineAt w k)).tm++[(86,.sc (.bool false))]}):=by
 obtain⟨n,hn1,hn2,hp,hend⟩:=firstN_ex (fun j=> !sameLine (w.net.getD j zW) (w.net.getD k zW)) w.net.length
 have hnk:n<=k:=by
  rcases Nat.lt_or_ge k n with h|h
  ·have:=hp k h
   simp[sameLine]at this
  ·exact h
 have hla:lineAt w k=n:=hn1
 rw[hla]
 refine⟨hnk,fun t ht hc=> ?_⟩
 have hs:sameLine (w.net.getD n zW) (w.net.getD k zW)=true:=by
  rcases hend with h|⟨_,h⟩
  ·omega
  ·simpa using h
 obtain⟨v,y1,hv,hv',hvd,_⟩:=get_ex w.net zW (j:=n) (by omega)
 obtain⟨u,y2,hu,hu',hud,_⟩:=get_ex w.net zW hk
 rw[hvd,hud]at hs
 simp only[sameLine,Bool.and_eq_true,decide_eq_true_iff]at hs
 have hex:exec (semK G PK md) (semL G PK md) md b186_1 (st186_1 w ⟨kind,k,b⟩ n)=some (.exit 0,{st186_1 w ⟨kind,k,b⟩ n with tm:=(st186_1 w ⟨kind,k,b⟩ n).tm++[(86,.sc (.bool false))]}):=by
  simp[b186_1,md,y1,y2,hv',hu',hs.1,hs.2]
 rw[←hex]
 refine loop_ok (G:=G) (PK:=PK) (md:=md) (o:=10000000) (live:=[2,3,4,7]) (c:=b186_1) (fun j=>st186_1 w ⟨kind,k,b⟩ j) n (fun i hi=> ?_) ⟨_,_,hex,by simp⟩ t ht hc
 obtain⟨z,y3,hz,hz',hzd,_⟩:=get_ex w.net zW (j:=i) (by omega)
 have hpi:=hp i hi
 rw[hzd,hud]at hpi
 simp only[sameLine,Bool.not_eq_true',Bool.and_eq_false_iff,decide_eq_false_iff_not]at hpi
 have hinc:=incr hi (by omega)
 by_cases h1:z.src=u.src
 ·have h2: ¬z.dst=u.dst:=fun h=>by rcases hpi with h3|h3<;>exact h3 (by assumption)
  simp[b186_1,md,y2,y3,hz',hu',hinc,h1,h2]
 ·simp[b186_1,md,y2,y3,hz',hu',hinc,h1]
theorem ev_l12Give (w:WorldD) (kind a b:Int) (hk:kind=7\/kind=8) (hok:worldOk w=true) (hw:wS w): ∃fin,fin2 fin/\semK G PK md 186 [.a (owneds (fWo w)),.a (lents (fD ⟨kind,a,b⟩))]=some ⟨[.a (owneds (fWo (giveW w kind a).1)),.v (.sc (.int .i64 (giveW w kind a).2))],fin,[]⟩:=by
 have hWI:=worldOk_WI hok hw
 have hnet:=hWI.net
 have wn:IntKind.wrap .i64 ((w.net.length:Int) - 1)=(w.net.length:Int) - 1:=wrap_id (by omega) (by omega)
 have e1:=ev_l1In (PK:=PK) a 0 ((w.net.length:Int) - 1)
 unfold giveW
 cases hb:inB a 0 ((w.net.length:Int) - 1)
 ·rw[hb]at e1
  refine⟨[none,none,none,none],⟨_,_,rfl⟩,semK_of (pf:=p186) rfl (by simp[p186]) ?_⟩
  simp[p186,md,wn,e1]
 rw[hb]at e1
 have hb1:=inB_iff.1 hb
 obtain⟨k,rfl⟩: ∃k:Nat,a=k:=⟨a.toNat,by omega⟩
 have hkn:k<w.net.length:=by omega
 obtain⟨x,y1,hx,hx',hxd,hxm⟩:=get_ex w.net zW hkn
 simp only[Bool.not_true,Bool.false_eq_true,if_false,Int.toNat_natCast,hxd]
 rcases hk with rfl|rfl
 ·simp only[show ¬ (7:Int)=8 by decide,if_false]
  have hle:=lineAt_le hkn
  obtain⟨_,hlp⟩:=lp_Give1 (PK:=PK) w 7 b k hkn (by omega)
  obtain⟨i,q,hi1,hq1,hi,hq,hiq,hb4⟩:=worldOk_line hok (j:=lineAt w k) (by omega)
  generalize hn:lineAt w k=n at*
  obtain⟨v,z1,hv,hv',hvd,hvm⟩:=get_ex w.net zW (j:=n) (by omega)
  have hvb:=hWI.wire v hvm
  rw[hvd]at hi1 hq1 hb4
  simp only[hvd]
  have e2:=ev_l12Read (PK:=PK) v hvb (by omega)
  obtain⟨vs,vd,vb⟩:=v
  simp only at hi1 hq1 hb4 hvb
  subst hi1 hq1
  have wn2:IntKind.wrap .i64 ((n:Int)+1)=((n+1:Nat):Int):=by rw[wrap_id (by omega) (by omega)];rfl
  simp only[lents,lent,owneds,owned,fW,fMs]at e2
  have l1:n<=w.net.length:=by omega
  have l2:n+1<=w.net.length:=by omega
  have l3:(0:Int)<=(n:Int)+1:=by omega
  have s1:n*40<=35184372088832:=by omega
  have s2:(n+(w.net.length - (n+1)))*40<=35184372088832:=by omega
  have mn:min n w.net.length=n:=Nat.min_eq_left l1
  have l4: ¬n+1<=n:=by omega
  have n0:n=0\/w.net.take n≠[]:=by
   rcases Nat.eq_zero_or_pos n with h|h
   ·exact .inl h
   ·refine .inr fun h2=> ?_
    have:=congrArg List.length h2
    rw[List.length_take,List.length_nil]at this
    omega
  have m0:w.net.drop (n+1)=[]\/w.net.drop (n+1)≠[]:=by by_cases h:w.net.drop (n+1)=[]<;>simp[h]
  have hfv:(enc fW w.net)[n]? =some (fW ⟨i,q,vb⟩):=by rw[enc_get,hv];rfl
  have r2:(enc fW (w.net.take (n+1))++enc fWh (w.net.drop (n+1)))[n]? =some (fW ⟨i,q,vb⟩):=by
   rw[List.getElem?_append_left (by rw[enc_len,List.length_take];omega),enc_get,List.getElem?_take,if_pos (by omega),hv];rfl
  have r3:(enc fWh (w.net.take n)++enc fW (w.net.drop n))[n]? =some (fW ⟨i,q,vb⟩):=by
   rw[List.getElem?_append_right (by rw[enc_len,List.length_take];omega),enc_len,List.length_take,mn,Nat.sub_self,enc_get,List.getElem?_drop,Nat.add_zero,hv];rfl
  have hw3:List.drop (n+1) (List.take w.net.length (enc fWh (w.net.take n)++enc fW (w.net.drop n)))=enc fW (w.net.drop (n+1)):=by
   rw[List.take_of_length_le (by rw[List.length_append,enc_len,enc_len,List.length_take,List.length_drop];omega),List.drop_append,enc_len,List.length_take,mn,List.drop_of_length_le (by rw[enc_len,List.length_take];omega),List.nil_append,show n+1 - n=1 by omega,enc_drop,List.drop_drop]
  simp only[fW]at r2 r3
  cases hr:readW ⟨(i:Int),(q:Int),vb⟩with
  |none=>
   rw[hr]at e2
   simp only[Option.isSome_none,Option.getD_none,zMs]at e2
   have e3:=ev_l12Cut (PK:=PK) {w with net:=w.net.take n++w.net.drop (n+1)} i q hWI.n3 hi hq hiq (by simp only[List.length_append,List.length_take,List.length_drop];omega) hWI.L.c3
   simp only[owneds,owned,fWo]at e3
   rcases n0 with n0|n0
   ·have f1:flat (enc fW (w.net.take n))=true:=by rw[n0];rfl
    rcases m0 with m0|m0
    ·have f2:flat (enc fW (w.net.drop (n+1)))=true:=by rw[m0];rfl
     refine⟨[none,some (enc fW w.net),none,none],⟨_,_,rfl⟩,semK_of (pf:=p186) rfl (by simp[p186]) ?_⟩
     simp[p186,md,wn,e1]
     rw[hlp]
     ·simp[z1,hv',wn2,e2,e3,l1,l2,l3,l4,s1,s2,mn,f1,f2,enc_take,enc_drop,enc_append,holed_W,Alike2]
     ·simp
     ·simp
    ·have f2:=flat_W m0
     refine⟨[none,some (enc fW (w.net.take (n+1))++enc fWh (w.net.drop (n+1))),none,none],⟨_,_,rfl⟩,semK_of (pf:=p186) rfl (by simp[p186]) ?_⟩
     simp[p186,md,wn,e1]
     rw[hlp]
     ·simp[z1,hv',wn2,e2,e3,l1,l2,l3,l4,s1,s2,mn,f1,f2,r2,enc_take,enc_drop,enc_append,holed_W,Alike2]
     ·simp
     ·simp
   ·have f1:=flat_W n0
    rcases m0 with m0|m0
    ·have f2:flat (enc fW (w.net.drop (n+1)))=true:=by rw[m0];rfl
     refine⟨[none,some (enc fWh (w.net.take n)++enc fW (w.net.drop n)),none,none],⟨_,_,rfl⟩,semK_of (pf:=p186) rfl (by simp[p186]) ?_⟩
     simp[p186,md,wn,e1]
     rw[hlp]
     ·simp[z1,hv',wn2,e2,e3,l1,l2,l3,l4,s1,s2,mn,f1,f2,r3,hw3,enc_take,enc_drop,enc_append,holed_W,Alike2]
     ·simp
     ·simp
    ·have f2:=flat_W m0
     refine⟨[none,some (List.take (n+1) (enc fWh (w.net.take n)++enc fW (w.net.drop n))++enc fWh (w.net.drop (n+1))),none,none],⟨_,_,rfl⟩,semK_of (pf:=p186) rfl (by simp[p186]) ?_⟩
     simp[p186,md,wn,e1]
     rw[hlp]
     ·simp[z1,hv',wn2,e2,e3,l1,l2,l3,l4,s1,s2,mn,f1,f2,r3,hw3,enc_take,enc_drop,enc_append,holed_W,Alike2]
     ·simp
     ·simp
  |some m=>
   rw[hr]at e2
   simp only[Option.isSome_some,Option.getD_some]at e2
   have hg:=readW_gens hr
   obtain⟨y,y2,hy,hy',hyd,hym⟩:=get_ex w.nodes zN (j:=q) (by have:=hWI.n3;omega)
   have hyn:nd w q=y:=hyd
   have hcy:=hWI.node y hym
   have hidy:y.id=q:=by rw[←hyn];exact hWI.id q hq
   have e4:=ev_spec_Hear (PK:=PK) y i m hcy.b hcy.bit (by omega)
   have hps:=hearN_posts (src:=(i:Int)) (m:=m) hidy hq
   have hpl:=hearN_len (n:=y) (src:=(i:Int)) (m:=m)
   have hrb:=hearN_nB (src:=(i:Int)) (m:=m) hcy (by omega)
   unfold give1
   simp only[Int.toNat_natCast]
   simp only[show nd {w with net:=w.net.take n++w.net.drop (n+1)} q=y from hyn]
   generalize hearN y i m=r at*
   obtain⟨r1,ps⟩:=r
   simp only at hps hpl hrb
   simp only[lents,lent,owneds,owned,fN,fMs]at e4
   have hwt:=hcy.wait
   have hsf:=hWI.safe
   have hrw:=hrb.wait
   have hlp0:=fun R=>lp_Give0 (PK:=PK) {w with nodes:=w.nodes.set q r1,net:=w.net.take n++w.net.drop (n+1)} R r1 q y.wait ps (by simp[y2]) (by omega) (by omega) (by simp only;omega)
   have hgs:=gv_s r1.wait y.wait ⟨w.safe,0⟩
   have hsh:=(gv_sh r1.wait w.safe y.wait ⟨w.safe,0⟩ ⟨by simp,fun _=>rfl⟩).1
   simp only at hlp0
   generalize y.wait.foldl (gvF r1.wait) ⟨w.safe,0⟩=g at*
   obtain⟨s,sh⟩:=g
   simp only at hgs hsh
   have hW:sureW {w with nodes:=w.nodes.set q r1,net:=w.net.take n++w.net.drop (n+1)} (y.wait.filter fun n=> !decide (n∈r1.wait))={w with nodes:=w.nodes.set q r1,net:=w.net.take n++w.net.drop (n+1),safe:=s}:=by unfold sureW;simp only[hgs]
   have hWL:WL {w with nodes:=w.nodes.set q r1,net:=w.net.take n++w.net.drop (n+1),safe:=s}:=⟨by simp only[List.length_set];exact hWI.n3,fun x hx=>by
    rcases List.mem_or_eq_of_mem_set hx with hx|rfl
    ·exact hWI.L.c3 x hx
    ·exact⟨hrb.conn,hrb.copies,hrb.sync⟩,by simp only[List.length_append,List.length_take,List.length_drop];omega⟩
   simp only[hW]
   obtain⟨fin5,hfin5,e5⟩:=ev_l12Send (PK:=PK) {w with nodes:=w.nodes.set q r1,net:=w.net.take n++w.net.drop (n+1),safe:=s} ps hWL (by omega) hps
   simp only[owneds,owned,fWo]at e5
   generalize sendW {w with nodes:=w.nodes.set q r1,net:=w.net.take n++w.net.drop (n+1),safe:=s} ps=v at*
   rcases n0 with n0|n0
   ·have f1:flat (enc fW (w.net.take n))=true:=by rw[n0];rfl
    rcases m0 with m0|m0
    ·have f2:flat (enc fW (w.net.drop (n+1)))=true:=by rw[m0];rfl
     refine⟨[none,some (enc fW w.net),none,if sh=1 then some (enc fI w.safe)else none],⟨_,_,rfl⟩,semK_of (pf:=p186) rfl (by simp[p186]) ?_⟩
     simp[p186,md,wn,e1]
     rw[hlp]
     ·simp[z1,hv',wn2,e2,y2,hy',e4,l1,l2,l3,l4,s1,s2,mn,f1,f2,enc_take,enc_drop,enc_append,holed_W,Alike2]
      rw[hlp0 (enc fW w.net)]
      ·rcases(show sh=0\/sh=1\/sh=2 by omega)with rfl|rfl|rfl<;>rcases hfin5 with rfl|⟨rows,rfl⟩<;>simp[b186_0,md,e5,Alike2]
      ·simp
      ·simp[Alike2]
     ·simp
     ·simp
    ·have f2:=flat_W m0
     refine⟨[none,some (enc fW (w.net.take (n+1))++enc fWh (w.net.drop (n+1))),none,if sh=1 then some (enc fI w.safe)else none],⟨_,_,rfl⟩,semK_of (pf:=p186) rfl (by simp[p186]) ?_⟩
     simp[p186,md,wn,e1]
     rw[hlp]
     ·simp[z1,hv',wn2,e2,y2,hy',e4,l1,l2,l3,l4,s1,s2,mn,f1,f2,r2,enc_take,enc_drop,enc_append,holed_W,Alike2]
      rw[hlp0 (enc fW (w.net.take (n+1))++enc fWh (w.net.drop (n+1)))]
      ·rcases(show sh=0\/sh=1\/sh=2 by omega)with rfl|rfl|rfl<;>rcases hfin5 with rfl|⟨rows,rfl⟩<;>simp[b186_0,md,e5,Alike2]
      ·simp
      ·simp[Alike2]
     ·simp
     ·simp
   ·have f1:=flat_W n0
    rcases m0 with m0|m0
    ·have f2:flat (enc fW (w.net.drop (n+1)))=true:=by rw[m0];rfl
     refine⟨[none,some (enc fWh (w.net.take n)++enc fW (w.net.drop n)),none,if sh=1 then some (enc fI w.safe)else none],⟨_,_,rfl⟩,semK_of (pf:=p186) rfl (by simp[p186]) ?_⟩
     simp[p186,md,wn,e1]
     rw[hlp]
     ·simp[z1,hv',wn2,e2,y2,hy',e4,l1,l2,l3,l4,s1,s2,mn,f1,f2,r3,hw3,enc_take,enc_drop,enc_append,holed_W,Alike2]
      rw[hlp0 (enc fWh (w.net.take n)++enc fW (w.net.drop n))]
      ·rcases(show sh=0\/sh=1\/sh=2 by omega)with rfl|rfl|rfl<;>rcases hfin5 with rfl|⟨rows,rfl⟩<;>simp[b186_0,md,e5,Alike2]
      ·simp
      ·simp[Alike2]
     ·simp
     ·simp
    ·have f2:=flat_W m0
     refine⟨[none,some (List.take (n+1) (enc fWh (w.net.take n)++enc fW (w.net.drop n))++enc fWh (w.net.drop (n+1))),none,if sh=1 then some (enc fI w.safe)else none],⟨_,_,rfl⟩,semK_of (pf:=p186) rfl (by simp[p186]) ?_⟩
     simp[p186,md,wn,e1]
     rw[hlp]
     ·simp[z1,hv',wn2,e2,y2,hy',e4,l1,l2,l3,l4,s1,s2,mn,f1,f2,r3,hw3,enc_take,enc_drop,enc_append,holed_W,Alike2]
      rw[hlp0 (List.take (n+1) (enc fWh (w.net.take n)++enc fW (w.net.drop n))++enc fWh (w.net.drop (n+1)))]
      ·rcases(show sh=0\/sh=1\/sh=2 by omega)with rfl|rfl|rfl<;>rcases hfin5 with rfl|⟨rows,rfl⟩<;>simp[b186_0,md,e5,Alike2]
      ·simp
      ·simp[Alike2]
       omega
     ·simp
     ·simp
 ·simp only[if_true]
  have hxb:=hWI.wire x hxm
  by_cases h0:x.bytes.length=0
  ·rw[if_pos h0]
   refine⟨[none,none,none,none],⟨_,_,rfl⟩,semK_of (pf:=p186) rfl (by simp[p186]) ?_⟩
   simp[p186,md,wn,e1,y1,hx',h0]
  ·rw[if_neg h0]
   have w1:IntKind.wrap .i64 ((x.bytes.length:Int) - 1)=((x.bytes.length - 1:Nat):Int):=by rw[wrap_id (by have:=hxb.1;omega) (by have:=hxb.1;omega)];omega
   have g1:x.bytes.length - 1<=35184372088832:=by have:=hxb.1;omega
   have hdl:x.bytes.dropLast=x.bytes.take (x.bytes.length - 1):=List.dropLast_eq_take
   rw[hdl]
   have hset:(enc fW w.net).set k [T.sc (Value.int IntKind.i64 x.src),T.sc (Value.int IntKind.i64 x.dst),T.sl 1 (List.take (x.bytes.length - 1) (enc fU x.bytes))]=enc fW (w.net.set k ⟨x.src,x.dst,List.take (x.bytes.length - 1) x.bytes⟩):=by rw[enc_take,set_W]
   refine⟨[none,none,none,none],⟨_,_,rfl⟩,semK_of (pf:=p186) rfl (by simp[p186]) ?_⟩
   have hft:flat (List.take (x.bytes.length - 1) (enc fU x.bytes))=true:=flat_take (flat_U _)
   simp[p186,md,wn,e1,y1,hx',h0,w1,g1,hft,hxd,hset,Alike2]
end Go.Proofs.YtbolhfegdocpeaaGreat.Ow
