/- What is given from a wire: what the reference makes of a world; sizes. -/
import Derived.Test.YtbolhfegdocpeaaGreatEv22
import Derived.Test.YtbolhfegdocpeaaGreatEv19
import Derived.Test.YtbolhfegdocpeaaGreatEv23
namespace Go.Proofs.YtbolhfegdocpeaaGreat.Ow
open Go
set_option linter.unusedVariables false
set_option linter.unusedSimpArgs false
set_option maxHeartbeats 16000000
variable {PK:Nat->List Arg->Option Res}
def Dw (x y:DC):Bool:=decide (x.src=y.src)&&decide (x.dst=y.dst)
def DO (w:AB) (k:Nat):Nat:=IP (fun j=> !Dw (w.net.getD j zW) (w.net.getD k zW)) w.net.length 0
def UJ (w:AB) (x:DC) (m:BI):AB:=
 let r:=F9 (nd w x.dst.toNat) x.src m
 F7 (Eo {w with nodes:=w.nodes.set x.dst.toNat r.1} ((nd w x.dst.toNat).wait.filter fun n=> !decide (n∈r.1.wait))) r.2
def Lt (w:AB) (kind a:Int):AB×Int:=
 if !inB a 0 ((w.net.length:Int) - 1)then(w,2)
 else if kind=8 then(if(w.net.getD a.toNat zW).bytes.length=0 then(w,3)else({w with net:=w.net.set a.toNat {(w.net.getD a.toNat zW)with bytes:=(w.net.getD a.toNat zW).bytes.dropLast}},0))
 else
  let x:=w.net.getD (DO w a.toNat) zW
  let w1:AB:={w with net:=w.net.take (DO w a.toNat)++w.net.drop (DO w a.toNat+1)}
  match LP x with
  |none=>(Db w1 x.src.toNat x.dst.toNat,0)
  |some m=>(UJ w1 x m,0)
theorem Se (n:AG) (who cell val:Int):(DP n who cell val).id=n.id:=by unfold DP;split<;>rfl
theorem ackN_id (n:AG) (src:Int) (m:BI):(Or n src m).id=n.id:=by
 unfold Or;split<;>exact Se _ _ _ _
theorem KC {n:AG} {src:Int} {m:BI} {i:Nat} (hid:n.id=i) (hi:i<3): ∀p∈(F9 n src m).2,Hd p:=by
 intro p hp;unfold F9 at hp;split at hp
 ·rename_i hc;simp only[UG,Bool.and_eq_true]at hc;obtain⟨⟨⟨⟨⟨h1,h2⟩,h3⟩,h4⟩,h5⟩,h6⟩:=hc;have nn:=A3 h1;have hs:=Ab.1 h3;obtain⟨k,rfl⟩: ∃k:Nat,src=k:=⟨src.toNat,by omega⟩;have hk:k<3:=by omega
  simp only[Int.toNat_natCast]at h4;have hne:=(Li nn hk).2 h4;rw[hid]at hne;have hack:Hd (S4 n k m):=⟨i,k,hi,hk,by omega,hid,rfl,by simp[S4]⟩;unfold Dx at hp;split at hp
  ·rw[List.mem_singleton.1 hp];exact hack
  ·split at hp
   ·rw[List.mem_singleton.1 hp];exact hack
   ·split at hp
    ·cases hp
    ·split at hp
     ·simp only at hp;split at hp
      ·cases hp
      ·rename_i k1 k4 k5 k2 k0;have nn2:NOk (Or n k m):=A3 (by unfold Dx at h6;simpa[k1,k4,k5,k2]using h6);simp only[tos,List.mem_flatMap,List.mem_range]at hp;obtain⟨j,hj,hp⟩:=hp;unfold to1 at hp;split at hp
       ·rename_i hc;rw[List.mem_singleton.1 hp];have hid2:=(ackN_id n k m).trans hid;have hne2:=(Li nn2 hj).2 hc.1;rw[hid2]at hne2;exact⟨i,j,hi,hj,by omega,hid2,rfl,by simp⟩
       ·cases hp
     ·split at hp<;>cases hp
 ·cases hp
theorem Sf {n:AG} {src:Int} {m:BI}:(F9 n src m).2.length<=3:=by
 unfold F9;split
 ·unfold Dx;split
  ·simp
  ·split
   ·simp
   ·split
    ·simp
    ·split
     ·simp only;split
      ·simp
      ·exact Kc _ _ _ 3
     ·split<;>simp
 ·simp
theorem Pg {n:AG} {src:Int} {m:BI} (hn:nC n) (hm:m.gens.length<=1000):nB (F9 n src m).1:=by
 unfold F9;split
 ·exact Ph hn.b hn.bit hm
 ·exact hn.b
theorem TA {α:Type} {g:α->Bool} {f:α->α} {Inv:α->Prop} (h: ∀a,Inv a->g a=true->Inv (f a)): ∀ (n:Nat) a,Inv a->Inv (wh g f n a)
 |0,a,ha=>ha
 |n+1,a,ha=>by
  simp only[wh];split
  ·rename_i hg;exact TA h n _ (h a ha hg)
  ·exact ha
theorem O1 {b:List Int} {l:List BI} (h:Hy b=some l): ∀m∈l,m.gens.length<=12:=by
 unfold Hy at h;split at h
 ·cases h
  have:(unR b).at_<=((CG b).getD []).length/\ ∀m∈(unR b).out,m.gens.length<=12:=by
   unfold unR;refine TA (Inv:=fun(s:UnS)=>s.at_<=((CG b).getD []).length/\ ∀m∈s.out,m.gens.length<=12) (fun s hs hg=> ?_) _ _ ⟨Nat.zero_le _,fun m hm=>by cases hm⟩;obtain⟨h1,h2⟩:=hs;unfold unF;split
   ·rename_i m n hm;obtain⟨_,k2,_,k4⟩:=Ld h1 hm;refine⟨k2,fun q hq=> ?_⟩;rcases List.mem_append.1 hq with h|h
    ·exact h2 q h
    ·rw[List.mem_singleton.1 h];exact k4
   ·refine⟨Nat.zero_le _,fun q hq=> ?_⟩;rcases List.mem_append.1 hq with h|h
    ·exact h2 q h
    ·rw[List.mem_singleton.1 h];simp[zMs]
  exact this.2
 ·cases h
theorem LO {x:DC} {m:BI} (h:LP x=some m):m.gens.length<=12:=by
 unfold LP at h;split at h
 ·split at h
  ·rename_i m' hu;cases h;exact O1 hu _ (by simp)
  ·cases h
 ·split at h
  ·rename_i m' n hm;split at h
   ·cases h;exact(Ld (Nat.zero_le _) hm).2.2.2
   ·cases h
  ·cases h
theorem If {w:AB} (h:BV w=true) {j:Nat} (hj:j<w.net.length): ∃i k:Nat,(w.net.getD j zW).src=i/\(w.net.getD j zW).dst=k/\i<3/\k<3/\i≠k/\(w.net.getD j zW).bytes.length<=400:=by
 rw[Hx]at h;simp only[Bool.and_eq_true]at h;have h1:=Ar h.1.1.2 hj;unfold FB at h1;simp only[Bool.and_eq_true,Bool.not_eq_true',decide_eq_false_iff_not,decide_eq_true_iff]at h1;obtain⟨⟨⟨⟨a1,a2⟩,a3⟩,a4⟩,a5⟩:=h1;have b1:=Ab.1 a1;have b2:=Ab.1 a2;exact⟨(w.net.getD j zW).src.toNat,(w.net.getD j zW).dst.toNat,by omega,by omega,by omega,by omega,by omega,a5⟩
@[simp] theorem set_W (l:List DC) (k:Nat) (a b:Int) (s:List Int):(enc fW l).set k [.sc (.int .i64 a),.sc (.int .i64 b),.sl 1 (enc fU s)]=enc fW (l.set k ⟨a,b,s⟩):=by rw[←Bc];rfl
def fWh (x:DC):List T:=[.sc (.int .i64 x.src),.sc (.int .i64 x.dst),.hole]
theorem Jh {l:List DC} (h:l≠[]):BA (enc fW l)=false:=by
 cases l with
 |nil=>exact absurd rfl h
 |cons x l=>simp
theorem EK: ∀l:List DC,Cb (enc fW l)=enc fWh l
 |[]=>rfl
 |x::l=>by simp only[BZ,Cb,EK l];rfl
@[simp] def obG (w:AB) (d:D5) (o:Nat):List (Nat×Obj):=[(0,.arr 16 (enc fN w.nodes)),(1,.arr 3 (enc fW w.net)),(2,.arr 2 (enc fR w.log)),(3,.arr 1 (enc fI w.safe)),(o,.box [.ref 0 [],.ref 1 [],.ref 2 [],.ref 3 [],.sc (.int .i64 w.gen)]),(o+1,.box [.sc (.int .i64 d.kind),.sc (.int .i64 d.a),.sc (.int .i64 d.b)]),(o+2,.box [.nil 16,.nil 3,.nil 2,.nil 1,.sc (.int .i64 0)])]
@[simp] def st186_1 (w:AB) (d:D5) (j:Nat):St:={n:=170,m:=4,tm:=[(2,.pb 10000000 0),(3,.pb 10000001 0),(4,.pb 10000002 0),(7,.sc (.int .i64 j))],ob:=obG w d 10000000}
theorem NO {w:AB} {k:Nat} (hk:k<w.net.length):DO w k<=k:=by
 obtain⟨n,hn1,hn2,hp,hend⟩:=HS (fun j=> !Dw (w.net.getD j zW) (w.net.getD k zW)) w.net.length;rw[show DO w k=n from hn1];rcases Nat.lt_or_ge k n with h|h
 ·have:=hp k h;simp[Dw]at this
 ·exact h
theorem Tw (w:AB) (kind b:Int) (k:Nat) (hk:k<w.net.length) (hn:w.net.length<=1000):DO w k<=k/\ ∀ (t:St),t.m<=10000000->Ai 10000000 [2,3,4,7] t=st186_1 w ⟨kind,k,b⟩ 0->Ag G PK md 10000000 [2,3,4,7] b186_1 t=some (.exit 0,{st186_1 w ⟨kind,k,b⟩ (DO w k)with tm:=(st186_1 w ⟨kind,k,b⟩ (DO w k)).tm++[(86,.sc (.bool false))]}):=by
 obtain⟨n,hn1,hn2,hp,hend⟩:=HS (fun j=> !Dw (w.net.getD j zW) (w.net.getD k zW)) w.net.length;have hnk:n<=k:=by
  rcases Nat.lt_or_ge k n with h|h
  ·have:=hp k h;simp[Dw]at this
  ·exact h
 have hla:DO w k=n:=hn1;rw[hla];refine⟨hnk,fun t ht hc=> ?_⟩;have hs:Dw (w.net.getD n zW) (w.net.getD k zW)=true:=by
  rcases hend with h|⟨_,h⟩
  ·omega
  ·simpa using h
 obtain⟨v,y1,hv,hv',hvd,_⟩:=Ay w.net zW (j:=n) (by omega);obtain⟨u,y2,hu,hu',hud,_⟩:=Ay w.net zW hk;rw[hvd,hud]at hs;simp only[Dw,Bool.and_eq_true,decide_eq_true_iff]at hs;have hex:An (AH G PK md) (Ag G PK md) md b186_1 (st186_1 w ⟨kind,k,b⟩ n)=some (.exit 0,{st186_1 w ⟨kind,k,b⟩ n with tm:=(st186_1 w ⟨kind,k,b⟩ n).tm++[(86,.sc (.bool false))]}):=by
  simp[b186_1,md,y1,y2,hv',hu',hs.1,hs.2]
 rw[←hex];refine AL (G:=G) (PK:=PK) (md:=md) (o:=10000000) (live:=[2,3,4,7]) (c:=b186_1) (fun j=>st186_1 w ⟨kind,k,b⟩ j) n (fun i hi=> ?_) ⟨_,_,hex,by simp⟩ t ht hc;obtain⟨z,y3,hz,hz',hzd,_⟩:=Ay w.net zW (j:=i) (by omega);have hpi:=hp i hi;rw[hzd,hud]at hpi;simp only[Dw,Bool.not_eq_true',Bool.and_eq_false_iff,decide_eq_false_iff_not]at hpi;have hinc:=A2 hi (by omega);by_cases h1:z.src=u.src
 ·have h2: ¬z.dst=u.dst:=fun h=>by rcases hpi with h3|h3<;>exact h3 (by assumption)
  simp[b186_1,md,y2,y3,hz',hu',hinc,h1,h2]
 ·simp[b186_1,md,y2,y3,hz',hu',hinc,h1]
theorem Q4 (w:AB) (kind a b:Int) (hk:kind=7\/kind=8) (hok:BV w=true) (hw:wS w): ∃fin,Pk fin/\AH G PK md 186 [.a (AD (fWo w)),.a (AJ (fD ⟨kind,a,b⟩))]=some ⟨[.a (AD (fWo (Lt w kind a).1)),.v (.sc (.int .i64 (Lt w kind a).2))],fin,[]⟩:=by
 have hWI:=BT hok hw;have hnet:=hWI.net;have wn:IntKind.wrap .i64 ((w.net.length:Int) - 1)=(w.net.length:Int) - 1:=AC (by omega) (by omega);have e1:=Aj (PK:=PK) a 0 ((w.net.length:Int) - 1);unfold Lt
 cases hb:inB a 0 ((w.net.length:Int) - 1)
 ·rw[hb]at e1;refine⟨[none,none,none,none],⟨_,_,rfl⟩,AA (pf:=p186) rfl (by simp[p186]) ?_⟩;simp[p186,md,wn,e1]
 rw[hb]at e1;have hb1:=Ab.1 hb;obtain⟨k,rfl⟩: ∃k:Nat,a=k:=⟨a.toNat,by omega⟩;have hkn:k<w.net.length:=by omega
 obtain⟨x,y1,hx,hx',hxd,hxm⟩:=Ay w.net zW hkn;simp only[Bool.not_true,Bool.false_eq_true,if_false,Int.toNat_natCast,hxd];rcases hk with rfl|rfl
 ·simp only[show ¬ (7:Int)=8 by decide,if_false];have hle:=NO hkn;obtain⟨_,hlp⟩:=Tw (PK:=PK) w 7 b k hkn (by omega);obtain⟨i,q,hi1,hq1,hi,hq,hiq,hb4⟩:=If hok (j:=DO w k) (by omega);generalize hn:DO w k=n at*;obtain⟨v,z1,hv,hv',hvd,hvm⟩:=Ay w.net zW (j:=n) (by omega);have hvb:=hWI.wire v hvm;rw[hvd]at hi1 hq1 hb4;simp only[hvd];have e2:=Q2 (PK:=PK) v hvb (by omega);obtain⟨vs,vd,vb⟩:=v;simp only at hi1 hq1 hb4 hvb;subst hi1 hq1;have wn2:IntKind.wrap .i64 ((n:Int)+1)=((n+1:Nat):Int):=by rw[AC (by omega) (by omega)];rfl
  simp only[AJ,lent,AD,AX,fW,fMs]at e2;have l1:n<=w.net.length:=by omega
  have l2:n+1<=w.net.length:=by omega
  have l3:(0:Int)<=(n:Int)+1:=by omega
  have s1:n*40<=35184372088832:=by omega
  have s2:(n+(w.net.length - (n+1)))*40<=35184372088832:=by omega
  have mn:min n w.net.length=n:=Nat.min_eq_left l1;have l4: ¬n+1<=n:=by omega
  have n0:n=0\/w.net.take n≠[]:=by
   rcases Nat.eq_zero_or_pos n with h|h
   ·exact .inl h
   ·refine .inr fun h2=> ?_
    have:=congrArg List.length h2;rw[List.length_take,List.length_nil]at this;omega
  have m0:w.net.drop (n+1)=[]\/w.net.drop (n+1)≠[]:=by by_cases h:w.net.drop (n+1)=[]<;>simp[h]
  have hfv:(enc fW w.net)[n]? =some (fW ⟨i,q,vb⟩):=by rw[Kn,hv];rfl
  have r2:(enc fW (w.net.take (n+1))++enc fWh (w.net.drop (n+1)))[n]? =some (fW ⟨i,q,vb⟩):=by
   rw[List.getElem?_append_left (by rw[Da,List.length_take];omega),Kn,List.getElem?_take,if_pos (by omega),hv];rfl
  have r3:(enc fWh (w.net.take n)++enc fW (w.net.drop n))[n]? =some (fW ⟨i,q,vb⟩):=by
   rw[List.getElem?_append_right (by rw[Da,List.length_take];omega),Da,List.length_take,mn,Nat.sub_self,Kn,List.getElem?_drop,Nat.add_zero,hv];rfl
  have hw3:List.drop (n+1) (List.take w.net.length (enc fWh (w.net.take n)++enc fW (w.net.drop n)))=enc fW (w.net.drop (n+1)):=by
   rw[List.take_of_length_le (by rw[List.length_append,Da,Da,List.length_take,List.length_drop];omega),List.drop_append,Da,List.length_take,mn,List.drop_of_length_le (by rw[Da,List.length_take];omega),List.nil_append,show n+1 - n=1 by omega,CM,List.drop_drop]
  simp only[fW]at r2 r3
  cases hr:LP ⟨(i:Int),(q:Int),vb⟩with
  |none=>
   rw[hr]at e2;simp only[Option.isSome_none,Option.getD_none,zMs]at e2;have e3:=FV (PK:=PK) {w with net:=w.net.take n++w.net.drop (n+1)} i q hWI.n3 hi hq hiq (by simp only[List.length_append,List.length_take,List.length_drop];omega) hWI.L.c3;simp only[AD,AX,fWo]at e3;rcases n0 with n0|n0
   ·have f1:BA (enc fW (w.net.take n))=true:=by rw[n0];rfl
    rcases m0 with m0|m0
    ·have f2:BA (enc fW (w.net.drop (n+1)))=true:=by rw[m0];rfl
     refine⟨[none,some (enc fW w.net),none,none],⟨_,_,rfl⟩,AA (pf:=p186) rfl (by simp[p186]) ?_⟩;simp[p186,md,wn,e1];rw[hlp]
     ·simp[z1,hv',wn2,e2,e3,l1,l2,l3,l4,s1,s2,mn,f1,f2,A5,CM,Ac,EK,AF]
     ·simp
     ·simp
    ·have f2:=Jh m0;refine⟨[none,some (enc fW (w.net.take (n+1))++enc fWh (w.net.drop (n+1))),none,none],⟨_,_,rfl⟩,AA (pf:=p186) rfl (by simp[p186]) ?_⟩;simp[p186,md,wn,e1];rw[hlp]
     ·simp[z1,hv',wn2,e2,e3,l1,l2,l3,l4,s1,s2,mn,f1,f2,r2,A5,CM,Ac,EK,AF]
     ·simp
     ·simp
   ·have f1:=Jh n0;rcases m0 with m0|m0
    ·have f2:BA (enc fW (w.net.drop (n+1)))=true:=by rw[m0];rfl
     refine⟨[none,some (enc fWh (w.net.take n)++enc fW (w.net.drop n)),none,none],⟨_,_,rfl⟩,AA (pf:=p186) rfl (by simp[p186]) ?_⟩;simp[p186,md,wn,e1];rw[hlp]
     ·simp[z1,hv',wn2,e2,e3,l1,l2,l3,l4,s1,s2,mn,f1,f2,r3,hw3,A5,CM,Ac,EK,AF]
     ·simp
     ·simp
    ·have f2:=Jh m0;refine⟨[none,some (List.take (n+1) (enc fWh (w.net.take n)++enc fW (w.net.drop n))++enc fWh (w.net.drop (n+1))),none,none],⟨_,_,rfl⟩,AA (pf:=p186) rfl (by simp[p186]) ?_⟩;simp[p186,md,wn,e1];rw[hlp]
     ·simp[z1,hv',wn2,e2,e3,l1,l2,l3,l4,s1,s2,mn,f1,f2,r3,hw3,A5,CM,Ac,EK,AF]
     ·simp
     ·simp
  |some m=>
   rw[hr]at e2;simp only[Option.isSome_some,Option.getD_some]at e2;have hg:=LO hr;obtain⟨y,y2,hy,hy',hyd,hym⟩:=Ay w.nodes zN (j:=q) (by have:=hWI.n3;omega);have hyn:nd w q=y:=hyd;have hcy:=hWI.node y hym;have hidy:y.id=q:=by rw[←hyn];exact hWI.id q hq
   have e4:=OX (PK:=PK) y i m hcy.b hcy.bit (by omega);have hps:=KC (src:=(i:Int)) (m:=m) hidy hq;have hpl:=Sf (n:=y) (src:=(i:Int)) (m:=m);have hrb:=Pg (src:=(i:Int)) (m:=m) hcy (by omega);unfold UJ;simp only[Int.toNat_natCast];simp only[show nd {w with net:=w.net.take n++w.net.drop (n+1)} q=y from hyn];generalize F9 y i m=r at*;obtain⟨r1,ps⟩:=r;simp only at hps hpl hrb;simp only[AJ,lent,AD,AX,fN,fMs]at e4;have hwt:=hcy.wait;have hsf:=hWI.safe;have hrw:=hrb.wait;have hlp0:=fun R=>Tx (PK:=PK) {w with nodes:=w.nodes.set q r1,net:=w.net.take n++w.net.drop (n+1)} R r1 q y.wait ps (by simp[y2]) (by omega) (by omega) (by simp only;omega)
   have hgs:=gv_s r1.wait y.wait ⟨w.safe,0⟩;have hsh:=(Rs r1.wait w.safe y.wait ⟨w.safe,0⟩ ⟨by simp,fun _=>rfl⟩).1;simp only at hlp0;generalize y.wait.foldl (gvF r1.wait) ⟨w.safe,0⟩=g at*;obtain⟨s,sh⟩:=g;simp only at hgs hsh;have hW:Eo {w with nodes:=w.nodes.set q r1,net:=w.net.take n++w.net.drop (n+1)} (y.wait.filter fun n=> !decide (n∈r1.wait))={w with nodes:=w.nodes.set q r1,net:=w.net.take n++w.net.drop (n+1),safe:=s}:=by unfold Eo;simp only[hgs]
   have hWL:WL {w with nodes:=w.nodes.set q r1,net:=w.net.take n++w.net.drop (n+1),safe:=s}:=⟨by simp only[List.length_set];exact hWI.n3,fun x hx=>by
    rcases List.mem_or_eq_of_mem_set hx with hx|rfl
    ·exact hWI.L.c3 x hx
    ·exact⟨hrb.conn,hrb.copies,hrb.sync⟩,by simp only[List.length_append,List.length_take,List.length_drop];omega⟩
   simp only[hW];obtain⟨fin5,hfin5,e5⟩:=Dq (PK:=PK) {w with nodes:=w.nodes.set q r1,net:=w.net.take n++w.net.drop (n+1),safe:=s} ps hWL (by omega) hps;simp only[AD,AX,fWo]at e5;generalize F7 {w with nodes:=w.nodes.set q r1,net:=w.net.take n++w.net.drop (n+1),safe:=s} ps=v at*;rcases n0 with n0|n0
   ·have f1:BA (enc fW (w.net.take n))=true:=by rw[n0];rfl
    rcases m0 with m0|m0
    ·have f2:BA (enc fW (w.net.drop (n+1)))=true:=by rw[m0];rfl
     refine⟨[none,some (enc fW w.net),none,if sh=1 then some (enc fI w.safe)else none],⟨_,_,rfl⟩,AA (pf:=p186) rfl (by simp[p186]) ?_⟩;simp[p186,md,wn,e1];rw[hlp]
     ·simp[z1,hv',wn2,e2,y2,hy',e4,l1,l2,l3,l4,s1,s2,mn,f1,f2,A5,CM,Ac,EK,AF];rw[hlp0 (enc fW w.net)]
      ·rcases(show sh=0\/sh=1\/sh=2 by omega)with rfl|rfl|rfl<;>rcases hfin5 with rfl|⟨rows,rfl⟩<;>simp[b186_0,md,e5,AF]
      ·simp
      ·simp[AF]
     ·simp
     ·simp
    ·have f2:=Jh m0;refine⟨[none,some (enc fW (w.net.take (n+1))++enc fWh (w.net.drop (n+1))),none,if sh=1 then some (enc fI w.safe)else none],⟨_,_,rfl⟩,AA (pf:=p186) rfl (by simp[p186]) ?_⟩;simp[p186,md,wn,e1];rw[hlp]
     ·simp[z1,hv',wn2,e2,y2,hy',e4,l1,l2,l3,l4,s1,s2,mn,f1,f2,r2,A5,CM,Ac,EK,AF];rw[hlp0 (enc fW (w.net.take (n+1))++enc fWh (w.net.drop (n+1)))]
      ·rcases(show sh=0\/sh=1\/sh=2 by omega)with rfl|rfl|rfl<;>rcases hfin5 with rfl|⟨rows,rfl⟩<;>simp[b186_0,md,e5,AF]
      ·simp
      ·simp[AF]
     ·simp
     ·simp
   ·have f1:=Jh n0;rcases m0 with m0|m0
    ·have f2:BA (enc fW (w.net.drop (n+1)))=true:=by rw[m0];rfl
     refine⟨[none,some (enc fWh (w.net.take n)++enc fW (w.net.drop n)),none,if sh=1 then some (enc fI w.safe)else none],⟨_,_,rfl⟩,AA (pf:=p186) rfl (by simp[p186]) ?_⟩;simp[p186,md,wn,e1];rw[hlp]
     ·simp[z1,hv',wn2,e2,y2,hy',e4,l1,l2,l3,l4,s1,s2,mn,f1,f2,r3,hw3,A5,CM,Ac,EK,AF];rw[hlp0 (enc fWh (w.net.take n)++enc fW (w.net.drop n))]
      ·rcases(show sh=0\/sh=1\/sh=2 by omega)with rfl|rfl|rfl<;>rcases hfin5 with rfl|⟨rows,rfl⟩<;>simp[b186_0,md,e5,AF]
      ·simp
      ·simp[AF]
     ·simp
     ·simp
    ·have f2:=Jh m0;refine⟨[none,some (List.take (n+1) (enc fWh (w.net.take n)++enc fW (w.net.drop n))++enc fWh (w.net.drop (n+1))),none,if sh=1 then some (enc fI w.safe)else none],⟨_,_,rfl⟩,AA (pf:=p186) rfl (by simp[p186]) ?_⟩;simp[p186,md,wn,e1];rw[hlp]
     ·simp[z1,hv',wn2,e2,y2,hy',e4,l1,l2,l3,l4,s1,s2,mn,f1,f2,r3,hw3,A5,CM,Ac,EK,AF];rw[hlp0 (List.take (n+1) (enc fWh (w.net.take n)++enc fW (w.net.drop n))++enc fWh (w.net.drop (n+1)))]
      ·rcases(show sh=0\/sh=1\/sh=2 by omega)with rfl|rfl|rfl<;>rcases hfin5 with rfl|⟨rows,rfl⟩<;>simp[b186_0,md,e5,AF]
      ·simp
      ·simp[AF];omega
     ·simp
     ·simp
 ·simp only[if_true];have hxb:=hWI.wire x hxm;by_cases h0:x.bytes.length=0
  ·rw[if_pos h0];refine⟨[none,none,none,none],⟨_,_,rfl⟩,AA (pf:=p186) rfl (by simp[p186]) ?_⟩;simp[p186,md,wn,e1,y1,hx',h0]
  ·rw[if_neg h0];have w1:IntKind.wrap .i64 ((x.bytes.length:Int) - 1)=((x.bytes.length - 1:Nat):Int):=by rw[AC (by have:=hxb.1;omega) (by have:=hxb.1;omega)];omega
   have g1:x.bytes.length - 1<=35184372088832:=by have:=hxb.1;omega
   have hdl:x.bytes.dropLast=x.bytes.take (x.bytes.length - 1):=List.dropLast_eq_take;rw[hdl];have hset:(enc fW w.net).set k [T.sc (Value.int IntKind.i64 x.src),T.sc (Value.int IntKind.i64 x.dst),T.sl 1 (List.take (x.bytes.length - 1) (enc fU x.bytes))]=enc fW (w.net.set k ⟨x.src,x.dst,List.take (x.bytes.length - 1) x.bytes⟩):=by rw[A5,set_W]
   refine⟨[none,none,none,none],⟨_,_,rfl⟩,AA (pf:=p186) rfl (by simp[p186]) ?_⟩;have hft:BA (List.take (x.bytes.length - 1) (enc fU x.bytes))=true:=FT (Lx _);simp[p186,md,wn,e1,y1,hx',h0,w1,g1,hft,hxd,hset,AF]
end Go.Proofs.YtbolhfegdocpeaaGreat.Ow
