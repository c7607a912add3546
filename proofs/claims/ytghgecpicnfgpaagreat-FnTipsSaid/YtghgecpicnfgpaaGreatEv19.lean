/- Functions evaluated on the small machine: What is given from a wire: what the reference makes of a world; sizes, A deed: what the reference makes of a world. -/
import Derived.Test.YtghgecpicnfgpaaGreatEv18
import Derived.Test.YtghgecpicnfgpaaGreatEv15
import Derived.Test.YtghgecpicnfgpaaGreatEv17
namespace Go.Proofs.YtghgecpicnfgpaaGreat.Ow
open Go
set_option linter.unusedVariables false
set_option linter.unusedSimpArgs false
set_option maxHeartbeats 16000000
def EF (x y:BD):Bool:=decide (x.src=y.src)&&decide (x.dst=y.dst)
def Cv (w:AB) (k:Nat):Nat:=J2 (λj=> !EF (w.net.getD j zW) (w.net.getD k zW)) w.net.length 0
def Ud (w:AB) (x:BD) (m:A2):AB:=
 let r:=Di (nd w x.dst.toNat) x.src m
 DA (El {w with nodes:=w.nodes.set x.dst.toNat r.1} ((nd w x.dst.toNat).wait.filter λn=> !decide (n∈r.1.wait))) r.2
def F1 (w:AB) (kind a:Int):AB×Int:=
 if !inB a 0 ((w.net.length:Int) - 1)then(w,2)
 else if kind=8 then(if(w.net.getD a.toNat zW).bytes.length=0 then(w,3)else({w with net:=w.net.set a.toNat {(w.net.getD a.toNat zW)with bytes:=(w.net.getD a.toNat zW).bytes.dropLast}},0))
 else
  let x:=w.net.getD (Cv w a.toNat) zW
  let w1:AB:={w with net:=w.net.take (Cv w a.toNat)++w.net.drop (Cv w a.toNat+1)}
  match Fx x with
  |none=>(CQ w1 x.src.toNat x.dst.toNat,0)
  |some m=>(Ud w1 x m,0)
theorem VP (n:AE) (who cell val:Int):(CG n who cell val).id=n.id:=by unfold CG;split<;>rfl
theorem Us (n:AE) (src:Int) (m:A2):(I4 n src m).id=n.id:=by
 unfold I4;split<;>exact VP _ _ _ _
theorem H2 {n:AE} {src:Int} {m:A2} {i:Nat} (hid:n.id=i) (hi:i<3): ∀p∈(Di n src m).2,GU p:=by
 intro p hp;unfold Di at hp;split at hp
 ·rename_i hc;simp only[JE,Bool.and_eq_true]at hc;obtain⟨⟨⟨⟨⟨h1,h2⟩,h3⟩,h4⟩,h5⟩,h6⟩:=hc;have nn:=Ai h1;have hs:=AP.1 h3;obtain⟨k,rfl⟩: ∃k:Nat,src=k:=⟨src.toNat,by omega⟩;have hk:k<3:=by omega
  simp only[Int.toNat_natCast]at h4;have hne:=(Hw nn hk).2 h4;rw[hid]at hne;have hack:GU (Pb n k m):=⟨i,k,hi,hk,by omega,hid,rfl,by simp[Pb]⟩;unfold D3 at hp;split at hp
  ·rw[List.mem_singleton.1 hp];exact hack
  ·split at hp
   ·rw[List.mem_singleton.1 hp];exact hack
   ·split at hp
    ·cases hp
    ·split at hp
     ·simp only at hp;split at hp
      ·cases hp
      ·rename_i k1 k4 k5 k2 k0;have nn2:NOk (I4 n k m):=Ai (by unfold D3 at h6;simpa[k1,k4,k5,k2]using h6);simp only[tos,List.mem_flatMap,List.mem_range]at hp;obtain⟨j,hj,hp⟩:=hp;unfold to1 at hp;split at hp
       ·rename_i hc;rw[List.mem_singleton.1 hp];have hid2:=(Us n k m).trans hid;have hne2:=(Hw nn2 hj).2 hc.1;rw[hid2]at hne2;exact⟨i,j,hi,hj,by omega,hid2,rfl,by simp⟩
       ·cases hp
     ·split at hp<;>cases hp
 ·cases hp
theorem VT {n:AE} {src:Int} {m:A2}:(Di n src m).2.length<=3:=by
 unfold Di;split
 ·unfold D3;split
  ·simp
  ·split
   ·simp
   ·split
    ·simp
    ·split
     ·simp only;split
      ·simp
      ·exact KP _ _ _ 3
     ·split<;>simp
 ·simp
theorem N6 {n:AE} {src:Int} {m:A2} (hn:nC n) (hm:m.gens.length<=1000):nB (Di n src m).1:=by
 unfold Di;split
 ·exact SJ hn.b hn.bit hm
 ·exact hn.b
theorem Vw {α:Type} {g:α->Bool} {f:α->α} {Inv:α->Prop} (h: ∀a,Inv a->g a=true->Inv (f a)): ∀ (n:Nat) a,Inv a->Inv (wh g f n a)
 |0,a,ha=>ha
 |n+1,a,ha=>by
  simp only[wh];split
  ·rename_i hg;exact Vw h n _ (h a ha hg)
  ·exact ha
theorem Rj {b:LI} {l:List A2} (h:Ez b=some l): ∀m∈l,m.gens.length<=12:=by
 unfold Ez at h;split at h
 ·cases h
  have:(unR b).at_<=((Bl b).getD []).length/\ ∀m∈(unR b).out,m.gens.length<=12:=by
   unfold unR;refine Vw (Inv:=fun(s:UnS)=>s.at_<=((Bl b).getD []).length/\ ∀m∈s.out,m.gens.length<=12) (λs hs hg=> ?_) _ _ ⟨Nat.zero_le _,λm hm=>by cases hm⟩;obtain⟨h1,h2⟩:=hs;unfold unF;split
   ·rename_i m n hm;obtain⟨_,k2,_,k4⟩:=Ht h1 hm;refine⟨k2,λq hq=> ?_⟩;rcases List.mem_append.1 hq with h|h
    ·exact h2 q h
    ·rw[List.mem_singleton.1 h];exact k4
   ·refine⟨Nat.zero_le _,λq hq=> ?_⟩;rcases List.mem_append.1 hq with h|h
    ·exact h2 q h
    ·rw[List.mem_singleton.1 h];simp[zMs]
  exact this.2
 ·cases h
theorem Jh {x:BD} {m:A2} (h:Fx x=some m):m.gens.length<=12:=by
 unfold Fx at h;split at h
 ·split at h
  ·rename_i m' hu;cases h;exact Rj hu _ (by simp)
  ·cases h
 ·split at h
  ·rename_i m' n hm;split at h
   ·cases h;exact(Ht (Nat.zero_le _) hm).2.2.2
   ·cases h
  ·cases h
theorem Gv {w:AB} (h:Ap w=true) {j:Nat} (hj:j<w.net.length): ∃i k:Nat,(w.net.getD j zW).src=i/\(w.net.getD j zW).dst=k/\i<3/\k<3/\i≠k/\(w.net.getD j zW).bytes.length<=400:=by
 rw[JX]at h;simp only[Bool.and_eq_true]at h;have h1:=Am h.1.1.2 hj;unfold Ft at h1;simp only[Bool.and_eq_true,Bool.not_eq_true',decide_eq_false_iff_not,decide_eq_true_iff]at h1;obtain⟨⟨⟨⟨a1,a2⟩,a3⟩,a4⟩,a5⟩:=h1;have b1:=AP.1 a1;have b2:=AP.1 a2;exact⟨(w.net.getD j zW).src.toNat,(w.net.getD j zW).dst.toNat,by omega,by omega,by omega,by omega,by omega,a5⟩
@[simp] theorem set_W (l:List BD) (k:Nat) (a b:Int) (s:LI):(enc fW l).set k [.sc (I6 a),.sc (I6 b),.sl 1 (enc fU s)]=enc fW (l.set k ⟨a,b,s⟩):=by rw[<-A3];rfl
def fWh (x:BD):List T:=[.sc (I6 x.src),.sc (I6 x.dst),.hole]
theorem Lv {l:List BD} (h:l≠[]):An (enc fW l)=false:=by
 cases l with
 |nil=>exact absurd rfl h
 |cons x l=>simp
theorem FK: ∀l:List BD,DD (enc fW l)=enc fWh l
 |[]=>rfl
 |x::l=>by simp only[BN,DD,FK l];rfl
@[simp] def obG (w:AB) (d:CD) (o:Nat):List (Nat×Obj):=[(0,.arr 16 (enc fN w.nodes)),(1,.arr 3 (enc fW w.net)),(2,.arr 2 (enc fR w.log)),(3,.arr 1 (enc fI w.safe)),(o,.box [.ref 0 [],.ref 1 [],.ref 2 [],.ref 3 [],.sc (I6 w.gen)]),(o+1,.box [.sc (I6 d.kind),.sc (I6 d.a),.sc (I6 d.b)]),(o+2,.box [.nil 16,.nil 3,.nil 2,.nil 1,.sc (I6 0)])]
@[simp] def st173_1 (w:AB) (d:CD) (j:Nat):St:={n:=170,m:=4,tm:=[(2,.pb 10000000 0),(3,.pb 10000001 0),(4,.pb 10000002 0),(7,.sc (I6 j))],ob:=obG w d 10000000}
theorem Lq {w:AB} {k:Nat} (hk:k<w.net.length):Cv w k<=k:=by
 obtain⟨n,hn1,hn2,hp,hend⟩:=FR (λj=> !EF (w.net.getD j zW) (w.net.getD k zW)) w.net.length;rw[show Cv w k=n from hn1];rcases Nat.lt_or_ge k n with h|h
 ·have:=hp k h;simp[EF]at this
 ·exact h
theorem Wp [PKI] (w:AB) (kind b:Int) (k:Nat) (hk:k<w.net.length) (hn:w.net.length<=1000):Cv w k<=k/\ ∀ (t:St),t.m<=10000000->Aa 10000000 [2,3,4,7] t=st173_1 w ⟨kind,k,b⟩ 0->A6 G PK md 10000000 [2,3,4,7] b173_1 t=some (.exit 0,{st173_1 w ⟨kind,k,b⟩ (Cv w k)with tm:=(st173_1 w ⟨kind,k,b⟩ (Cv w k)).tm++[(86,.sc (.bool false))]}):=by
 obtain⟨n,hn1,hn2,hp,hend⟩:=FR (λj=> !EF (w.net.getD j zW) (w.net.getD k zW)) w.net.length;have hnk:n<=k:=by
  rcases Nat.lt_or_ge k n with h|h
  ·have:=hp k h;simp[EF]at this
  ·exact h
 have hla:Cv w k=n:=hn1;rw[hla];refine⟨hnk,λt ht hc=> ?_⟩;have hs:EF (w.net.getD n zW) (w.net.getD k zW)=true:=by
  rcases hend with h|⟨_,h⟩
  ·omega
  ·simpa using h
 obtain⟨v,y1,hv,hv',hvd,_⟩:=AX w.net zW (j:=n) (by omega);obtain⟨u,y2,hu,hu',hud,_⟩:=AX w.net zW hk;rw[hvd,hud]at hs;simp only[EF,Bool.and_eq_true,decide_eq_true_iff]at hs;have hex:xG b173_1 (st173_1 w ⟨kind,k,b⟩ n)=some (.exit 0,{st173_1 w ⟨kind,k,b⟩ n with tm:=(st173_1 w ⟨kind,k,b⟩ n).tm++[(86,.sc (.bool false))]}):=by
  simp[b173_1,  y1,y2,hv',hu',hs.1,hs.2]
 rw[<-hex];refine @lok _ 10000000 [2,3,4,7] b173_1 (λj=>st173_1 w ⟨kind,k,b⟩ j) n (λi hi=> ?_) ⟨_,_,hex,by simp⟩ t ht hc;obtain⟨z,y3,hz,hz',hzd,_⟩:=AX w.net zW (j:=i) (by omega);have hpi:=hp i hi;rw[hzd,hud]at hpi;simp only[EF,Bool.not_eq_true',Bool.and_eq_false_iff,decide_eq_false_iff_not]at hpi;have hinc:=Ar hi (by omega);by_cases h1:z.src=u.src
 ·have h2: ¬z.dst=u.dst:=λh=>by rcases hpi with h3|h3<;>exact h3 (by assumption)
  simp[b173_1,  y2,y3,hz',hu',hinc,h1,h2]
 ·simp[b173_1,  y2,y3,hz',hu',hinc,h1]
theorem Tm [PKI] (w:AB) (kind a b:Int) (hk:kind=7\/kind=8) (hok:Ap w=true) (hw:wS w): ∃fin,SN fin/\sG 173 [.a (AA (fWo w)),.a (AD (fD ⟨kind,a,b⟩))]=some ⟨[.a (AA (fWo (F1 w kind a).1)),.v (.sc (I6 (F1 w kind a).2))],fin,[]⟩:=by
 have hWI:=A9 hok hw;have hnet:=hWI.net;have wn:IntKind.wrap .i64 ((w.net.length:Int) - 1)=(w.net.length:Int) - 1:=AC (by omega) (by omega);have e1:=Ao a 0 ((w.net.length:Int) - 1);unfold F1
 cases hb:inB a 0 ((w.net.length:Int) - 1)
 ·rw[hb]at e1;refine⟨[none,none,none,none],⟨_,_,rfl⟩,sK p173 ?_⟩;simp[p173,  wn,e1]
 rw[hb]at e1;have hb1:=AP.1 hb;obtain⟨k,rfl⟩: ∃k:Nat,a=k:=⟨a.toNat,by omega⟩;have hkn:k<w.net.length:=by omega
 obtain⟨x,y1,hx,hx',hxd,hxm⟩:=AX w.net zW hkn;simp only[Bool.not_true,Bool.false_eq_true,if_false,Int.toNat_natCast,hxd];rcases hk with rfl|rfl
 ·simp only[show ¬ (7:Int)=8 by decide,if_false];have hle:=Lq hkn;obtain⟨_,hlp⟩:=Wp w 7 b k hkn (by omega);obtain⟨i,q,hi1,hq1,hi,hq,hiq,hb4⟩:=Gv hok (j:=Cv w k) (by omega);generalize hn:Cv w k=n at*;obtain⟨v,z1,hv,hv',hvd,hvm⟩:=AX w.net zW (j:=n) (by omega);have hvb:=hWI.wire v hvm;rw[hvd]at hi1 hq1 hb4;simp only[hvd];have e2:=Tk v hvb (by omega);obtain⟨vs,vd,vb⟩:=v;simp only at hi1 hq1 hb4 hvb;subst hi1 hq1;have wn2:IntKind.wrap .i64 ((n:Int)+1)=((n+1:Nat):Int):=by rw[AC (by omega) (by omega)];rfl
  simp only[AD,lent,AA,AJ,fW,fMs]at e2;have l1:n<=w.net.length:=by omega
  have l2:n+1<=w.net.length:=by omega
  have l3:(0:Int)<=(n:Int)+1:=by omega
  have s1:n*40<=35184372088832:=by omega
  have s2:(n+(w.net.length - (n+1)))*40<=35184372088832:=by omega
  have mn:min n w.net.length=n:=Nat.min_eq_left l1;have l4: ¬n+1<=n:=by omega
  have n0:n=0\/w.net.take n≠[]:=by
   rcases Nat.eq_zero_or_pos n with h|h
   ·exact .inl h
   ·refine .inr λh2=> ?_
    have:=congrArg List.length h2;rw[List.length_take,List.length_nil]at this;omega
  have m0:w.net.drop (n+1)=[]\/w.net.drop (n+1)≠[]:=by by_cases h:w.net.drop (n+1)=[]<;>simp[h]
  have hfv:(enc fW w.net)[n]? =some (fW ⟨i,q,vb⟩):=by rw[Is,hv];rfl
  have r2:(enc fW (w.net.take (n+1))++enc fWh (w.net.drop (n+1)))[n]? =some (fW ⟨i,q,vb⟩):=by
   rw[List.getElem?_append_left (by rw[Bx,List.length_take];omega),Is,List.getElem?_take,if_pos (by omega),hv];rfl
  have r3:(enc fWh (w.net.take n)++enc fW (w.net.drop n))[n]? =some (fW ⟨i,q,vb⟩):=by
   rw[List.getElem?_append_right (by rw[Bx,List.length_take];omega),Bx,List.length_take,mn,Nat.sub_self,Is,List.getElem?_drop,Nat.add_zero,hv];rfl
  have hw3:List.drop (n+1) (List.take w.net.length (enc fWh (w.net.take n)++enc fW (w.net.drop n)))=enc fW (w.net.drop (n+1)):=by
   rw[List.take_of_length_le (by rw[List.length_append,Bx,Bx,List.length_take,List.length_drop];omega),List.drop_append,Bx,List.length_take,mn,List.drop_of_length_le (by rw[Bx,List.length_take];omega),List.nil_append,show n+1 - n=1 by omega,CA,List.drop_drop]
  simp only[fW]at r2 r3
  cases hr:Fx ⟨(i:Int),(q:Int),vb⟩with
  |none=>
   rw[hr]at e2;simp only[Option.isSome_none,Option.getD_none,zMs]at e2;have e3:=Gl {w with net:=w.net.take n++w.net.drop (n+1)} i q hWI.n3 hi hq hiq (by simp only[List.length_append,List.length_take,List.length_drop];omega) hWI.L.c3;simp only[AA,AJ,fWo]at e3;rcases n0 with n0|n0
   ·have f1:An (enc fW (w.net.take n))=true:=by rw[n0];rfl
    rcases m0 with m0|m0
    ·have f2:An (enc fW (w.net.drop (n+1)))=true:=by rw[m0];rfl
     refine⟨[none,some (enc fW w.net),none,none],⟨_,_,rfl⟩,sK p173 ?_⟩;simp[p173,  wn,e1];rw[hlp]
     ·simp[z1,hv',wn2,e2,e3,l1,l2,l3,l4,s1,s2,mn,f1,f2,Ax,CA,AU,FK]
     ·simp
     ·simp
    ·have f2:=Lv m0;refine⟨[none,some (enc fW (w.net.take (n+1))++enc fWh (w.net.drop (n+1))),none,none],⟨_,_,rfl⟩,sK p173 ?_⟩;simp[p173,  wn,e1];rw[hlp]
     ·simp[z1,hv',wn2,e2,e3,l1,l2,l3,l4,s1,s2,mn,f1,f2,r2,Ax,CA,AU,FK]
     ·simp
     ·simp
   ·have f1:=Lv n0;rcases m0 with m0|m0
    ·have f2:An (enc fW (w.net.drop (n+1)))=true:=by rw[m0];rfl
     refine⟨[none,some (enc fWh (w.net.take n)++enc fW (w.net.drop n)),none,none],⟨_,_,rfl⟩,sK p173 ?_⟩;simp[p173,  wn,e1];rw[hlp]
     ·simp[z1,hv',wn2,e2,e3,l1,l2,l3,l4,s1,s2,mn,f1,f2,r3,hw3,Ax,CA,AU,FK]
     ·simp
     ·simp
    ·have f2:=Lv m0;refine⟨[none,some (List.take (n+1) (enc fWh (w.net.take n)++enc fW (w.net.drop n))++enc fWh (w.net.drop (n+1))),none,none],⟨_,_,rfl⟩,sK p173 ?_⟩;simp[p173,  wn,e1];rw[hlp]
     ·simp[z1,hv',wn2,e2,e3,l1,l2,l3,l4,s1,s2,mn,f1,f2,r3,hw3,Ax,CA,AU,FK]
     ·simp
     ·simp
  |some m=>
   rw[hr]at e2;simp only[Option.isSome_some,Option.getD_some]at e2;have hg:=Jh hr;obtain⟨y,y2,hy,hy',hyd,hym⟩:=AX w.nodes zN (j:=q) (by have:=hWI.n3;omega);have hyn:nd w q=y:=hyd;have hcy:=hWI.node y hym;have hidy:y.id=q:=by rw[<-hyn];exact hWI.id q hq
   have e4:=Q4 y i m hcy.b hcy.bit (by omega);have hps:=H2 (src:=(i:Int)) (m:=m) hidy hq;have hpl:=VT (n:=y) (src:=(i:Int)) (m:=m);have hrb:=N6 (src:=(i:Int)) (m:=m) hcy (by omega);unfold Ud;simp only[Int.toNat_natCast];simp only[show nd {w with net:=w.net.take n++w.net.drop (n+1)} q=y from hyn];generalize Di y i m=r at*;obtain⟨r1,ps⟩:=r;simp only at hps hpl hrb;simp only[AD,lent,AA,AJ,fN,fMs]at e4;have hwt:=hcy.wait;have hsf:=hWI.safe;have hrw:=hrb.wait;have hlp0:=λR=>Wq {w with nodes:=w.nodes.set q r1,net:=w.net.take n++w.net.drop (n+1)} R r1 q y.wait ps (by simp[y2]) (by omega) (by omega) (by simp only;omega)
   have hgs:=gv_s r1.wait y.wait ⟨w.safe,0⟩;have hsh:=(Ub r1.wait w.safe y.wait ⟨w.safe,0⟩ ⟨by simp,λ_=>rfl⟩).1;simp only at hlp0;generalize y.wait.foldl (gvF r1.wait) ⟨w.safe,0⟩=g at*;obtain⟨s,sh⟩:=g;simp only at hgs hsh;have hW:El {w with nodes:=w.nodes.set q r1,net:=w.net.take n++w.net.drop (n+1)} (y.wait.filter λn=> !decide (n∈r1.wait))={w with nodes:=w.nodes.set q r1,net:=w.net.take n++w.net.drop (n+1),safe:=s}:=by unfold El;simp only[hgs]
   have hWL:WL {w with nodes:=w.nodes.set q r1,net:=w.net.take n++w.net.drop (n+1),safe:=s}:=⟨by simp only[List.length_set];exact hWI.n3,λx hx=>by
    rcases List.mem_or_eq_of_mem_set hx with hx|rfl
    ·exact hWI.L.c3 x hx
    ·exact⟨hrb.conn,hrb.copies,hrb.sync⟩,by simp only[List.length_append,List.length_take,List.length_drop];omega⟩
   simp only[hW];obtain⟨fin5,hfin5,e5⟩:=Ee {w with nodes:=w.nodes.set q r1,net:=w.net.take n++w.net.drop (n+1),safe:=s} ps hWL (by omega) hps;simp only[AA,AJ,fWo]at e5;generalize DA {w with nodes:=w.nodes.set q r1,net:=w.net.take n++w.net.drop (n+1),safe:=s} ps=v at*;rcases n0 with n0|n0
   ·have f1:An (enc fW (w.net.take n))=true:=by rw[n0];rfl
    rcases m0 with m0|m0
    ·have f2:An (enc fW (w.net.drop (n+1)))=true:=by rw[m0];rfl
     refine⟨[none,some (enc fW w.net),none,if sh=1 then some (enc fI w.safe)else none],⟨_,_,rfl⟩,sK p173 ?_⟩;simp[p173,  wn,e1];rw[hlp]
     ·simp[z1,hv',wn2,e2,y2,hy',e4,l1,l2,l3,l4,s1,s2,mn,f1,f2,Ax,CA,AU,FK];rw[hlp0 (enc fW w.net)]
      ·rcases(show sh=0\/sh=1\/sh=2 by omega)with rfl|rfl|rfl<;>rcases hfin5 with rfl|⟨rows,rfl⟩<;>simp[b173_0,  e5]
      ·simp
      ·simp[CV]
     ·simp
     ·simp
    ·have f2:=Lv m0;refine⟨[none,some (enc fW (w.net.take (n+1))++enc fWh (w.net.drop (n+1))),none,if sh=1 then some (enc fI w.safe)else none],⟨_,_,rfl⟩,sK p173 ?_⟩;simp[p173,  wn,e1];rw[hlp]
     ·simp[z1,hv',wn2,e2,y2,hy',e4,l1,l2,l3,l4,s1,s2,mn,f1,f2,r2,Ax,CA,AU,FK];rw[hlp0 (enc fW (w.net.take (n+1))++enc fWh (w.net.drop (n+1)))]
      ·rcases(show sh=0\/sh=1\/sh=2 by omega)with rfl|rfl|rfl<;>rcases hfin5 with rfl|⟨rows,rfl⟩<;>simp[b173_0,  e5]
      ·simp
      ·simp[CV]
     ·simp
     ·simp
   ·have f1:=Lv n0;rcases m0 with m0|m0
    ·have f2:An (enc fW (w.net.drop (n+1)))=true:=by rw[m0];rfl
     refine⟨[none,some (enc fWh (w.net.take n)++enc fW (w.net.drop n)),none,if sh=1 then some (enc fI w.safe)else none],⟨_,_,rfl⟩,sK p173 ?_⟩;simp[p173,  wn,e1];rw[hlp]
     ·simp[z1,hv',wn2,e2,y2,hy',e4,l1,l2,l3,l4,s1,s2,mn,f1,f2,r3,hw3,Ax,CA,AU,FK];rw[hlp0 (enc fWh (w.net.take n)++enc fW (w.net.drop n))]
      ·rcases(show sh=0\/sh=1\/sh=2 by omega)with rfl|rfl|rfl<;>rcases hfin5 with rfl|⟨rows,rfl⟩<;>simp[b173_0,  e5]
      ·simp
      ·simp[CV]
     ·simp
     ·simp
    ·have f2:=Lv m0;refine⟨[none,some (List.take (n+1) (enc fWh (w.net.take n)++enc fW (w.net.drop n))++enc fWh (w.net.drop (n+1))),none,if sh=1 then some (enc fI w.safe)else none],⟨_,_,rfl⟩,sK p173 ?_⟩;simp[p173,  wn,e1];rw[hlp]
     ·simp[z1,hv',wn2,e2,y2,hy',e4,l1,l2,l3,l4,s1,s2,mn,f1,f2,r3,hw3,Ax,CA,AU,FK];rw[hlp0 (List.take (n+1) (enc fWh (w.net.take n)++enc fW (w.net.drop n))++enc fWh (w.net.drop (n+1)))]
      ·rcases(show sh=0\/sh=1\/sh=2 by omega)with rfl|rfl|rfl<;>rcases hfin5 with rfl|⟨rows,rfl⟩<;>simp[b173_0,  e5]
      ·simp
      ·simp[CV];omega
     ·simp
     ·simp
 ·simp only[if_true];have hxb:=hWI.wire x hxm;by_cases h0:x.bytes.length=0
  ·rw[if_pos h0];refine⟨[none,none,none,none],⟨_,_,rfl⟩,sK p173 ?_⟩;simp[p173,  wn,e1,y1,hx',h0]
  ·rw[if_neg h0];have w1:IntKind.wrap .i64 ((x.bytes.length:Int) - 1)=((x.bytes.length - 1:Nat):Int):=by rw[AC (by have:=hxb.1;omega) (by have:=hxb.1;omega)];omega
   have g1:x.bytes.length - 1<=35184372088832:=by have:=hxb.1;omega
   have hdl:x.bytes.dropLast=x.bytes.take (x.bytes.length - 1):=List.dropLast_eq_take;rw[hdl];have hset:(enc fW w.net).set k [T.sc (Value.int IntKind.i64 x.src),T.sc (Value.int IntKind.i64 x.dst),T.sl 1 (List.take (x.bytes.length - 1) (enc fU x.bytes))]=enc fW (w.net.set k ⟨x.src,x.dst,List.take (x.bytes.length - 1) x.bytes⟩):=by rw[Ax,set_W]
   refine⟨[none,none,none,none],⟨_,_,rfl⟩,sK p173 ?_⟩;have hft:An (List.take (x.bytes.length - 1) (enc fU x.bytes))=true:=Gi (OD _);simp[p173,  wn,e1,y1,hx',h0,w1,g1,hft,hxd,hset]
theorem XI {fin:List (Option (List (List T)))} (h:Tc fin):SN fin:=by
 rcases h with rfl|⟨rows,rfl⟩
 ·exact⟨_,_,rfl⟩
 ·exact⟨_,_,rfl⟩
def QX (w:AB) (kind:Int) (a:Nat) (b:Int):AB×Int:=
 if !inB b 0 2||decide ((a:Int)=b)then(w,2)else if kind=2 then H0 w a b.toNat else if kind=9 then EP w a b.toNat
 else if !(nd w a).conn.getD b.toNat false then(w,3)else(CQ w a b.toNat,0)
theorem Ve [PKI] (w:AB) (kind:Int) (a:Nat) (b:Int) (hk:kind=2\/kind=3\/kind=9) (ha:a<3) (hw:WI w): ∃fin,SN fin/\sG 175 [.a (AA (fWo w)),.a (AD (fD ⟨kind,a,b⟩))]=some ⟨[.a (AA (fWo (QX w kind a b).1)),.v (.sc (I6 (QX w kind a b).2))],fin,[]⟩:=by
 have e1:=Ao b 0 2;unfold QX;have nfin:SN [none,none,none,none]:=⟨_,_,rfl⟩
 cases hb:inB b 0 2
 ·rw[hb]at e1;refine⟨_,nfin,sK p175 ?_⟩;rcases hk with rfl|rfl|rfl<;>simp[p175,  e1]
 rw[hb]at e1;have rb:=AP.1 hb;obtain⟨k,rfl⟩: ∃k:Nat,b=(k:Int):=⟨b.toNat,by omega⟩;rcases tfb (a:Int) k with ⟨c1,d1⟩|⟨c1,d1⟩
 ·refine⟨_,nfin,sK p175 ?_⟩;have hak:a=k:=by have:=of_eq_true c1;omega
  subst hak;simp[p175,  e1]
 have hak:a≠k:=λe=>by subst e;simp at c1
 have c1':(a=k)=False:=eq_false hak;have hdec:decide ((a:Int)=k)=false:=by simp[c1]
 simp only[hdec,Int.toNat_natCast];rcases hk with rfl|rfl|rfl
 ·have e2:=Tl w a k ha (by omega) hak hw;refine⟨_,nfin,sK p175 ?_⟩;simp only[AA,AJ,fWo]at e2;generalize H0 w a k=r at*;simp (maxSteps:=9999999) [p175,  e1,c1,c1',d1,e2]
 ·obtain⟨x,y1,_,hx',hxd,hxm⟩:=AX w.nodes zN (j:=a) (by have:=hw.n3;omega);have hxa:nd w a=x:=hxd;obtain⟨c,q1,_,cc',hcd⟩:=Aj x.conn (j:=k) (by have:=(hw.node x hxm).b.conn;omega);rw[hxa,hcd]
  cases c
  ·refine⟨_,nfin,sK p175 ?_⟩;simp (maxSteps:=9999999) [p175,  e1,c1,c1',d1,y1,hx',q1,cc']
  ·have e2:=Gl w a k hw.n3 ha (by omega) hak (by have:=hw.net;omega) hw.L.c3;refine⟨[none,some (FF w.net a k w.net.length),none,none],⟨_,_,rfl⟩,sK p175 ?_⟩;simp only[AA,AJ,fWo]at e2;generalize CQ w a k=v at*;simp (maxSteps:=9999999) [p175,  e1,c1,c1',d1,y1,hx',q1,cc',e2]
 ·obtain⟨fin,hfin,e2⟩:=Q8 w a k ha (by omega) hw;refine⟨fin,XI hfin,sK p175 ?_⟩;simp only[AA,AJ,fWo]at e2;generalize EP w a k=r at*;rcases hfin with rfl|⟨rows,rfl⟩<;>simp (maxSteps:=9999999) [p175,  e1,c1,c1',d1,e2]
def FW (w:AB) (d:CD):AB×Int:=
 if d.kind=7\/d.kind=8 then F1 w d.kind d.a
 else if !inB d.a 0 2||decide (d.kind=1)&& !inB d.b 0 7 then(w,2)
 else if d.kind=1 then FT w d.a.toNat d.b
 else if d.kind=2\/d.kind=3\/d.kind=9 then QX w d.kind d.a.toNat d.b
 else if d.kind=4\/d.kind=5\/d.kind=6 then F3 w d.kind d.a.toNat d.b
 else if d.a=2 then(w,3)else Hh w d.kind d.a.toNat (1 - d.a.toNat)
theorem JY {w:AB} (h:Ap w=true) (hw:wS w) {a:Nat} (ha:a<3):DnI a ⟨w,0,[]⟩:=by
 refine⟨A9 h hw,.inl rfl,?_⟩;have hN:=F7 h;have h1:=(Hw (hN.ok a ha) ha).2;unfold EM;simp only[Int.toNat_natCast]
 cases hc:(nd w a).conn.getD a false
 ·rfl
 ·exact absurd (hN.id a ha).symm (h1 hc)
theorem MO {w:AB} (h:Ap w=true):0<=w.gen/\w.gen<=100000:=by
 unfold Ap at h;simp only[Bool.and_eq_true]at h;have:=AP.1 h.1.1.1.1.2;omega
theorem Vf [PKI] (w:AB) (d:CD) (hk:1<=d.kind/\d.kind<=12) (hok:Ap w=true) (hw:wS w): ∃fin,SN fin/\sG 117 [.a (AA (fWo w)),.a (AD (fD d))]=some ⟨[.a (AA (fWo (FW w d).1)),.v (.sc (I6 (FW w d).2))],fin,[]⟩:=by
 obtain⟨kind,a0,b⟩:=d;simp only at hk;have hWI:=A9 hok hw;unfold FW;simp only;by_cases h78:kind=7\/kind=8
 ·obtain⟨fin,hfin,e2⟩:=Tm w kind a0 b h78 hok hw;refine⟨fin,hfin,sK p117 ?_⟩;rw[if_pos h78];simp only[AA,AJ,fWo,AD,lent,fD]at e2;generalize F1 w kind a0=r at*;obtain⟨A,B,rfl⟩:=hfin;rcases h78 with rfl|rfl<;>cases A<;>cases B<;>simp (maxSteps:=9999999) [p117,  e2]
 have h7: ¬kind=7:=λh=>h78 (.inl h)
 have h8: ¬kind=8:=λh=>h78 (.inr h)
 rw[if_neg h78];have e1:=Ao a0 0 2;have e3:=Ao b 0 7;have nfin:SN [none,none,none,none]:=⟨_,_,rfl⟩
 cases ha:inB a0 0 2
 ·rw[ha]at e1;refine⟨_,nfin,sK p117 ?_⟩;simp (maxSteps:=9999999) [p117,  e1,h7,h8]
 rw[ha]at e1;have ra:=AP.1 ha;obtain⟨a,rfl⟩: ∃a:Nat,a0=(a:Int):=⟨a0.toNat,by omega⟩;simp only[Int.toNat_natCast];by_cases h1:kind=1
 ·subst h1
  cases hb:inB b 0 7
  ·rw[hb]at e3;refine⟨_,nfin,sK p117 ?_⟩;simp (maxSteps:=9999999) [p117,  e1,e3]
  ·rw[hb]at e3;obtain⟨fin,hfin,e2⟩:=SY w a b (by omega) hWI;refine⟨fin,hfin,sK p117 ?_⟩;simp only[AA,AJ,fWo]at e2;generalize FT w a b=r at*;obtain⟨A,B,rfl⟩:=hfin
   cases A<;>cases B<;>simp (maxSteps:=9999999) [p117,  e1,e3,e2]
 have hd1:(!true||decide (kind=1)&& !inB b 0 7)=false:=by simp[h1]
 rw[hd1];by_cases h2:kind=2\/kind=3\/kind=9
 ·obtain⟨fin,hfin,e2⟩:=Ve w kind a b h2 (by omega) hWI;refine⟨fin,hfin,sK p117 ?_⟩;rw[if_neg (by simp),if_neg h1,if_pos h2];simp only[AA,AJ,fWo,AD,lent,fD]at e2;generalize QX w kind a b=r at*;obtain⟨A,B,rfl⟩:=hfin;rcases h2 with rfl|rfl|rfl<;>cases A<;>cases B<;>simp (maxSteps:=9999999) [p117,  e1,e2]
 by_cases h4:kind=4\/kind=5\/kind=6
 ·obtain⟨fin,hfin,e2⟩:=Tn w kind a b (by omega) (JY hok hw (by omega));refine⟨fin,XI hfin,sK p117 ?_⟩;rw[if_neg (by simp),if_neg h1,if_neg h2,if_pos h4];simp only[AA,AJ,fWo,AD,lent,fD]at e2;generalize F3 w kind a b=r at*;rcases h4 with rfl|rfl|rfl<;>rcases hfin with rfl|⟨rows,rfl⟩<;>simp (maxSteps:=9999999) [p117,  e1,e2]
 have hk2:kind=10\/kind=11\/kind=12:=by omega
 rw[if_neg (by simp),if_neg h1,if_neg h2,if_neg h4];by_cases ha2:(a:Int)=2
 ·have ha2':a=2:=by omega
  subst ha2';have e2:=SZ w kind b;refine⟨_,nfin,sK p117 ?_⟩;rw[if_pos ha2];rw[show ((2:Nat):Int)=2 from rfl]at e1 ⊢;simp only[AA,AJ,fWo,AD,lent,fD]at e2;rcases hk2 with rfl|rfl|rfl<;>simp (maxSteps:=9999999) [p117,  e1,e2]
 ·obtain⟨fin,hfin,e2⟩:=Tj w kind b a (1 - a) (by omega) hWI (MO hok);refine⟨fin,hfin,sK p117 ?_⟩;rw[if_neg ha2];simp only[AA,AJ,fWo,AD,lent,fD]at e2;generalize Hh w kind a (1 - a)=r at*;obtain⟨A,B,rfl⟩:=hfin;rcases hk2 with rfl|rfl|rfl<;>cases A<;>cases B<;>simp (maxSteps:=9999999) [p117,  e1,e2]
end Go.Proofs.YtghgecpicnfgpaaGreat.Ow
