/- Functions evaluated on the small machine: Giving: what the program makes of a world, A deed: what the program makes of a world, A row of deeds: what the program makes of a world, New nodes, New nodes: D8. -/
import Derived.Test.YtghgecpicnfgpaaGreatEv28
import Derived.Test.YtghgecpicnfgpaaGreatEv22
import Derived.Test.YtghgecpicnfgpaaGreatEv19
import Derived.Test.YtghgecpicnfgpaaGreatEv27
import Derived.Test.YtghgecpicnfgpaaGreatEv26
import Derived.Test.YtghgecpicnfgpaaGreatEv20
import Derived.Test.YtghgecpicnfgpaaGreatEv9
namespace Go.Proofs.YtghgecpicnfgpaaGreat.Ow
open Go
set_option linter.unusedVariables false
set_option linter.unusedSimpArgs false
set_option maxHeartbeats 16000000
set_option maxRecDepth 100000
def X0 (PK:Nat->List Arg->Option Res):Prop:= ∀ (rows:List (List T)) (i:Nat),i<rows.length->rows.length<=1048576->B3 G PK md 157 [.v (.own 3 rows),.v (.sc (I6 i)),.v (.sc (I6 (i+1:Nat)))]=some ⟨[.v (.own 3 (rows.take i++rows.drop (i+1)))],[none],[]⟩
theorem V0 {n:AE} {m:A2} {i k:Nat} (hk:k<3) (hi:i<3) (hik:i≠k) (hc:n.conn.getD i false=false):(tos n k m).length<=1:=by
 have h0:to1 n k m k=[]:=by unfold to1;rw[if_neg (λh=>h.2 rfl)]
 have h2:to1 n k m i=[]:=by unfold to1;rw[if_neg (λh=>by rw[hc]at h;cases h.1)]
 have h1: ∀j,(to1 n k m j).length<=1:=λj=>by unfold to1;split<;>simp
 have a0:=h1 0;have a1:=h1 1;have a2:=h1 2;unfold tos;simp only[List.range_succ,List.range_zero,List.nil_append,List.flatMap_append,List.flatMap_cons,List.flatMap_nil,List.append_nil,List.length_append];rcases(by omega:k=0\/k=1\/k=2)with rfl|rfl|rfl<;>rcases(by omega:i=0\/i=1\/i=2)with rfl|rfl|rfl<;>
  first
  |(exfalso;exact hik rfl)
  |(rw[h0,h2];simp only[List.length_nil];omega)
theorem TY {n:AE} {src:Int} {m:A2}:(Di n src m).2.length<=1:=by
 unfold Di;split
 ·rename_i hc;simp only[JE,Bool.and_eq_true]at hc;obtain⟨⟨⟨⟨⟨h1,h2⟩,h3⟩,h4⟩,h5⟩,h6⟩:=hc;have nn:=Ai h1;have hs:=AP.1 h3;obtain⟨k,rfl⟩: ∃k:Nat,src=k:=⟨src.toNat,by omega⟩;have hk:k<3:=by omega
  simp only[Int.toNat_natCast]at h4;have hne:=(Hw nn hk).2 h4;obtain⟨i,i3,hi⟩:=nn.nat;unfold D3;split
  ·simp
  ·split
   ·simp
   ·split
    ·simp
    ·split
     ·rename_i k1 k4 k5 k2;simp only;split
      ·simp
      ·have nn2:NOk (I4 n k m):=Ai (by unfold D3 at h6;simpa[k1,k4,k5,k2]using h6);have hid2:(I4 n k m).id=(i:Int):=(Us n k m).trans hi;refine V0 hk i3 (by omega) ?_
       cases hh:(I4 n k m).conn.getD i false
       ·rfl
       ·have h9:=(Hw nn2 i3).2 hh;rw[hid2]at h9;exact absurd rfl h9
     ·split<;>simp
 ·simp
theorem ev_give [PKI] (hK:Cm PK) (hD:X0 PK) (w:AB) (k:Nat) (hk:k<w.net.length) (hok:Ap w=true) (hw:wS w):sG 107 [.pm (AA (fWo w)),.v (.sc (I6 k))]=some ⟨[.v (.sc (I6 (F1 w 7 k).2))],[],[AA (fWo (F1 w 7 k).1)]⟩:=by
 have hWI:=A9 hok hw;have hn40:w.net.length<=40:=by
  unfold Ap Kk at hok;simp only[Bool.and_eq_true,decide_eq_true_iff]at hok;exact hok.2.2
 obtain⟨x,y1,hx,hx',hxd,hxm⟩:=AX w.net zW hk;have hin:inB (k:Int) 0 ((w.net.length:Int) - 1)=true:=AP.2 (by omega);have eI:=Oh 156 (fW x) (λy=>decide (y.src=x.src)&&decide (y.dst=x.dst)) w.net (by omega) rfl (λy=>XX y x);have hle:=Lq hk;obtain⟨i,q,hi1,hq1,hi,hq,hiq,hb4⟩:=Gv hok (j:=Cv w k) (by omega);have hfx:FL (λj=> !(decide ((w.net.getD j zW).src=x.src)&&decide ((w.net.getD j zW).dst=x.dst))) w.net.length=(Cv w k:Int):=by
  obtain⟨n,hn1,hn2,hp,hend⟩:=FR (λj=> !EF (w.net.getD j zW) (w.net.getD k zW)) w.net.length;have hl:Cv w k=n:=hn1;rw[hl]at hle ⊢;rw[hxd]at hp hend;rcases hend with h|⟨h1,h2⟩
  ·omega
  ·exact BX h1 (λj hj=>hp j hj) h2
 simp only[fW]at eI;rw[hfx]at eI;unfold F1;rw[hin];simp only[Bool.not_true,Bool.false_eq_true,if_false,Int.toNat_natCast,show ¬ (7:Int)=8 by decide];generalize hn:Cv w k=n at*;obtain⟨v,z1,hv,hv',hvd,hvm⟩:=AX w.net zW (j:=n) (by omega);have hvb:=hWI.wire v hvm;rw[hvd]at hi1 hq1 hb4;simp only[hvd];have e2:=Tg v hvb (by omega);have eD:=hD ((enc fW w.net).set n [.sc (I6 v.src),.sc (I6 v.dst),.hole]) n (by rw[List.length_set,Bx];omega) (by rw[List.length_set,Bx];omega);rw[List.take_set_of_le (Nat.le_refl _),List.drop_set_of_lt (by omega),Ax,CA,AU]at eD;obtain⟨vs,vd,vb⟩:=v;simp only at hi1 hq1 hb4 hvb;subst hi1 hq1;have wn2:IntKind.wrap .i64 ((n:Int)+1)=(n:Int)+1:=AC (by omega) (by omega);rw[show ((n+1:Nat):Int)=(n:Int)+1 from rfl]at eD;simp only[AD,lent,AA,AJ,fW,fMs]at e2;simp only at eD;have hmi: ∀m,Fx ⟨(i:Int),(q:Int),vb⟩=some m->VH ⟨(i:Int),(q:Int),vb⟩=m:=λm h=>msgI_of h
 generalize VH ⟨(i:Int),(q:Int),vb⟩=mi at*;obtain⟨net1,hnet1⟩: ∃l,l=w.net.take n++w.net.drop (n+1):=⟨_,rfl⟩;have hnl:net1.length+1=w.net.length:=by rw[hnet1,List.length_append,List.length_take,List.length_drop];omega
 rw[<-hnet1]at eD ⊢
 cases hr:Fx ⟨(i:Int),(q:Int),vb⟩with
 |none=>
  rw[hr]at e2;simp only[Option.isSome_none]at e2;have e3:=RL {w with net:=net1} i q hWI.n3 hi hq hiq (by simp only;omega) hWI.L.c3;simp only[AA,AJ,fWo]at e3;refine sK p107 ?_;simp (maxSteps:=9999999) [p107,  y1,hx',eI,z1,hv',wn2,eD,e2,e3]
 |some m=>
  have hmi:=hmi m hr;subst hmi;rw[hr]at e2;simp only[Option.isSome_some]at e2;have hg:=Jh hr;obtain⟨y,y2,hy,hy',hyd,hym⟩:=AX w.nodes zN (j:=q) (by have:=hWI.n3;omega);have hyn:nd w q=y:=hyd;have hcy:=hWI.node y hym;have hidy:y.id=q:=by rw[<-hyn];exact hWI.id q hq
  have e4:=RE hK y i mi hcy.b hcy.bit (by omega);have hps:=H2 (src:=(i:Int)) (m:=mi) hidy hq;have hpl:=TY (n:=y) (src:=(i:Int)) (m:=mi);have hrb:=N6 (src:=(i:Int)) (m:=mi) hcy (by omega);unfold Ud;simp only[Int.toNat_natCast];simp only[show nd {w with net:=net1} q=y from hyn];generalize Di y i mi=r at*;obtain⟨r1,ps⟩:=r;simp only at hps hpl hrb;simp only[AD,lent,AA,AJ,fN,fMs]at e4;have hwt:=hcy.wait;have hsf:=hWI.safe;have hrw:=hrb.wait;have hWL:WL {w with net:=net1,nodes:=w.nodes.set q r1}:=⟨by simp only[List.length_set];exact hWI.n3,λx hx=>by
   rcases List.mem_or_eq_of_mem_set hx with hx|rfl
   ·exact hWI.L.c3 x hx
   ·exact⟨hrb.conn,hrb.copies,hrb.sync⟩,by simp only;omega⟩
  obtain⟨net,hns,e5⟩:=Ky {w with net:=net1,nodes:=w.nodes.set q r1} ps hWL (by simp only;omega) hps;have e6:=hK.ci y.wait (by omega);have e7:=Fg 160 (fN r1) (λx=>decide (x∈r1.wait)) y.wait (by omega) rfl (λx=>XW x r1 (by omega));have hfl:(y.wait.filter λn=> !decide (n∈r1.wait)).length<=y.wait.length:=List.length_filter_le _ _;have e8:=NK hK (enc fN (w.nodes.set q r1)) {w with net:=net,nodes:=w.nodes.set q r1} (y.wait.filter λn=> !decide (n∈r1.wait)) (by omega) (by simp only;omega);simp only[tkW]at e5 e8;simp only[fN]at e7;unfold El;rw[Jf,hns];simp only;generalize y.wait.filter (λn=> !decide (n∈r1.wait))=fl at*;refine sK p107 ?_;simp (maxSteps:=9999999) [p107,  y1,hx',eI,z1,hv',wn2,eD,e2,y2,hy',e4,e5,e6,e7,e8]
theorem Ul {w:AB} {a:Nat} (ha:a<3) (h:DnI a ⟨w,0,[]⟩) (hi: ∀k:Nat,k<3->EM w a k=false->T9 w a k):Ml w a={Or w a with nodes:=(Or w a).nodes.set a (H6 (nd (Or w a) a))}:=by
 have h1:(On w a).w=Or w a:=(QN ha h hi 3 (Nat.le_refl _)).1;unfold Ml;rw[h1]
theorem XL {w:AB} {a:Nat} {b:Int} (hok:Ap w=true) (hw:wS w) (ha:a<3):Me w a=F3 w 4 a b:=by
 have h:=Ul ha (JY hok hw ha) (λk hk hc=>KN hok ha hk hc);unfold Me F3;rw[<-h]
 cases hu:(nd w a).up<;>simp
theorem MG {n:AE} {b:Int} {k:Nat} (h:Cr n k=n):Cr (Hc n b) k=Hc n b:=by
 have h1:n.conn.set k false=n.conn:=congrArg AE.conn h;have h2:n.copies.set k false=n.copies:=congrArg AE.copies h;have h3:n.sync.set k []=n.sync:=congrArg AE.sync h;unfold Cr Hc;simp only[h1,h2,h3]
theorem V1 {w:AB} {a:Nat} {b:Int} (hok:Ap w=true) (hw:wS w) (ha:a<3):Rm w a b=F3 w 6 a b:=by
 unfold Rm F3;have hWI:=A9 hok hw;have hn3:=hWI.n3;rw[if_neg (show ¬ (6:Int)=5 by decide)];simp only[decide_true,Bool.true_and,if_true]
 cases hu:(nd w a).up
 ·simp
 cases hb:inB b 0 155
 ·simp
 simp only[Bool.not_true,Bool.or_self,Bool.false_eq_true,if_false];have rb:=AP.1 hb;have hna:nd (Dx w a b) a=Hc (nd w a) b:=by unfold Dx;rw[Lk hn3 ha,if_pos rfl]
 have hnk: ∀k,k<3->k≠a->nd (Dx w a b) k=nd w k:=λk hk hka=>by unfold Dx;rw[Lk hn3 hk,if_neg (Ne.symm hka)]
 have hcn: ∀k:Int,EM (Dx w a b) a k=EM w a k:=λk=>by unfold EM;simp only[Int.toNat_natCast];rw[hna];rfl
 have hD:DnI a ⟨Dx w a b,0,[]⟩:=⟨Rl hWI ha rb.2,.inl rfl,by simp only;rw[hcn];exact(JY hok hw ha).self⟩;have h:=Ul ha hD (λk hk hc=>by
  rw[hcn]at hc;have hi:=KN hok ha hk hc;by_cases hka:k=a
  ·subst hka;exact⟨by rw[hna];exact MG hi.x,by rw[hna];exact MG hi.x,hi.net⟩
  ·exact⟨by rw[hna];exact MG hi.x,by rw[hnk k hk hka];exact hi.y,hi.net⟩)
 rw[h];unfold Me;rw[hna,if_pos (show (Hc (nd w a) b).up=true from hu)]
theorem VF {w:AB} {d:CD} (hk:1<=d.kind/\d.kind<=12) (h:Jp w d=false):FW w d=(w,2):=by
 unfold Jp at h;unfold FW;by_cases h7:d.kind=7\/d.kind=8
 ·rw[if_pos h7]at h ⊢;unfold F1;rw[h];rfl
 rw[if_neg h7]at h ⊢;by_cases h2:d.kind=2\/d.kind=3\/d.kind=9
 ·rw[if_pos h2]at h;have h1: ¬d.kind=1:=by omega
  cases ha:inB d.a 0 2
  ·simp
  ·simp only[decide_eq_false h1,Bool.not_true,Bool.false_and,Bool.or_self,Bool.false_eq_true,if_false,if_neg h1,if_pos h2];unfold QX;have r:=AP.1 ha;rw[ha,Bool.true_and]at h
   cases hb:inB d.b 0 2
   ·simp
   ·rw[hb,Bool.true_and]at h;have hab:d.a=d.b:=by simpa using h
    rw[if_pos];simp only[Bool.not_true,Bool.false_or,decide_eq_true_iff];omega
 rw[if_neg h2]at h;by_cases h1:d.kind=1
 ·rw[if_pos h1]at h;rw[if_pos]
  cases ha:inB d.a 0 2
  ·simp
  ·rw[ha,Bool.true_and]at h;simp[h,h1]
 ·rw[if_neg h1]at h;rw[if_pos];simp[h]
theorem ev_do [PKI] (hK:Cm PK) (hD:X0 PK) (w:AB) (d:CD) (hk:1<=d.kind/\d.kind<=12) (hnm:Jp w d=true) (hok:Ap w=true) (hw:wS w):sG 63 [.pm (AA (fWo w)),.a (AD (fD d))]=some ⟨[.v (.sc (I6 (FW w d).2))],[],[AA (fWo (FW w d).1)]⟩:=by
 have hWI:=A9 hok hw;have hn3:=hWI.n3;have hlg:w.log.length<=200/\w.net.length<=40:=by
  have hok2:=hok;unfold Ap Kk at hok2;simp only[Bool.and_eq_true,decide_eq_true_iff]at hok2;exact⟨hok2.1.1.1.1.1.2,hok2.2.2⟩
 obtain⟨kind,a0,b0⟩:=d;unfold Jp at hnm;unfold FW;simp only at hk hnm ⊢;by_cases h7:kind=7\/kind=8
 ·rw[if_pos h7]at hnm ⊢;have r:=AP.1 hnm;obtain⟨k,rfl⟩: ∃k:Nat,a0=k:=⟨a0.toNat,by omega⟩;have hkn:k<w.net.length:=by omega
  rcases h7 with rfl|rfl
  ·have e:=ev_give hK hD w k hkn hok hw;simp only[AA,AJ,fWo]at e;generalize F1 w 7 k=r at*;refine sK p63 ?_;simp (maxSteps:=9999999) [p63,  e]
  ·obtain⟨x,y1,hx,hx',hxd,hxm⟩:=AX w.net zW hkn;have hxb:=hWI.wire x hxm;have e:=XN w k hkn (by rw[hxd];have:=hxb.1;omega);have hs:F1 w 8 k=LY w k:=by unfold F1 LY;rw[hnm];simp
   rw[hs];simp only[AA,AJ,fWo]at e;generalize LY w k=r at*;refine sK p63 ?_;simp (maxSteps:=9999999) [p63,  e]
 rw[if_neg h7]at hnm ⊢;have ha:inB a0 0 2=true:=by
  revert hnm;split
  ·intro h;simp only[Bool.and_eq_true]at h;exact h.1.1
  ·split
   ·intro h;simp only[Bool.and_eq_true]at h;exact h.1
   ·exact id
 have ra:=AP.1 ha;obtain⟨a,rfl⟩: ∃a:Nat,a0=a:=⟨a0.toNat,by omega⟩;have ha3:a<3:=by omega
 by_cases h2:kind=2\/kind=3\/kind=9
 ·rw[if_pos h2]at hnm;simp only[Bool.and_eq_true,decide_eq_true_iff]at hnm;have rb:=AP.1 hnm.1.2;obtain⟨b,rfl⟩: ∃b:Nat,b0=b:=⟨b0.toNat,by omega⟩;have hb3:b<3:=by omega
  have hab:a≠b:=λh=>hnm.2 (by rw[h])
  have h1: ¬kind=1:=by omega
  rw[if_neg (by simp[ha,h1]),if_neg h1,if_pos h2];unfold QX;have hab': ¬ (a:Int)=b:=by omega
  simp only[Int.toNat_natCast,hnm.1.2,decide_eq_false hab',Bool.not_true,Bool.or_self,Bool.false_eq_true,if_false];rcases h2 with rfl|rfl|rfl
  ·have e:=ev_join hK w a b ha3 hb3 hab hWI;simp only[if_true];simp only[AA,AJ,fWo]at e;generalize H0 w a b=r at*;refine sK p63 ?_;simp (maxSteps:=9999999) [p63,  e]
  ·obtain⟨x,y1,_,hx',hxd,hxm⟩:=AX w.nodes zN (j:=a) (by omega);have hxa:nd w a=x:=hxd;have hc:=(hWI.node x hxm).b.conn;obtain⟨c,q1,_,c1',hcd⟩:=Aj x.conn (j:=b) (by omega);have e:=RL w a b hn3 ha3 hb3 hab (by have:=hWI.net;omega) hWI.L.c3;simp only[show ¬ (3:Int)=2 by decide,show ¬ (3:Int)=9 by decide,if_false];rw[hxa,hcd];simp only[AA,AJ,fWo]at e;generalize CQ w a b=r at*;refine sK p63 ?_
   cases c<;>simp (maxSteps:=9999999) [p63,  y1,hx',q1,c1',e]
  ·have e:=Tt hK w a b ha3 hb3 hWI hlg.2;simp only[show ¬ (9:Int)=2 by decide,if_false,if_true];simp only[AA,AJ,fWo]at e;generalize EP w a b=r at*;refine sK p63 ?_;simp (maxSteps:=9999999) [p63,  e]
 rw[if_neg h2]at hnm;by_cases h1:kind=1
 ·subst h1;simp only[if_true,ha,Bool.true_and]at hnm;rw[if_neg (by simp[ha,hnm]),if_pos rfl];simp only[Int.toNat_natCast];have e:=XM hK w a b0 ha3 hWI hlg.1;simp only[AA,AJ,fWo]at e;generalize FT w a b0=r at*;refine sK p63 ?_;simp (maxSteps:=9999999) [p63,  e]
 rw[if_neg (by simp[ha,h1]),if_neg h1,if_neg h2];simp only[Int.toNat_natCast];by_cases h4:kind=4\/kind=5\/kind=6
 ·rw[if_pos h4];rcases h4 with rfl|rfl|rfl
  ·have e:=Uk hK w a ha3 hWI;rw[XL (b:=b0) hok hw ha3]at e;simp only[AA,AJ,fWo]at e;generalize F3 w 4 a b0=r at*;refine sK p63 ?_;simp (maxSteps:=9999999) [p63,  e]
  ·obtain⟨x,y1,_,hx',hxd,hxm⟩:=AX w.nodes zN (j:=a) (by omega);have hxa:nd w a=x:=hxd;have e:=RA hK x (hWI.node x hxm).b.nS;unfold F3;rw[if_pos rfl,hxa];simp only[AD,lent,AA,AJ,fN]at e;generalize KW x=q at*;refine sK p63 ?_
   cases hu:x.up<;>rw[hu]at e<;>simp (maxSteps:=9999999) [p63,  y1,hx',hu,e]
  ·have e:=ev_tear hK w a b0 ha3 hWI;rw[V1 hok hw ha3]at e;simp only[AA,AJ,fWo]at e;generalize F3 w 6 a b0=r at*;refine sK p63 ?_;simp (maxSteps:=9999999) [p63,  e]
 rw[if_neg h4];simp only[not_or]at h4 h2 h7;by_cases ha2:(a:Int)=2
 ·rw[if_pos ha2];have e:=XP w kind;simp only[AA,AJ,fWo]at e;refine sK p63 ?_;simp (maxSteps:=9999999) [p63,  ha2,h1,h2.1,h2.2.1,h2.2.2,h4.1,h4.2.1,h4.2.2,h7.1,h7.2,e]
 ·rw[if_neg ha2];have e:=ev_role hK w kind a (1 - a) (by omega) hWI (MO hok);simp only[AA,AJ,fWo]at e;generalize Hh w kind a (1 - a)=r at*;refine sK p63 ?_;simp (maxSteps:=9999999) [p63,  h1,h2.1,h2.2.1,h2.2.2,h4.1,h4.2.1,h4.2.2,h7.1,h7.2,e]
theorem ev_done [PKI] (hK:Cm PK) (hD:X0 PK) (w:AB) (d:CD) (hok:Ap w=true) (hw:wS w):sG 36 [.a (AD (fWo w)),.a (AD (fD d))]=some ⟨[.a (AA (fWo (doW w d).1)),.v (.sc (I6 (doW w d).2))],[],[]⟩:=by
 refine sK p36 ?_;have e2:=BF d.kind 1 12;unfold doW;rw[hok]
 cases hk:inB d.kind 1 12
 ·rw[hk]at e2;simp[p36,  e2,zWo]
 rw[hk]at e2;have hkb:=AP.1 hk;have hWI:=A9 hok hw;have e3:=HF hK w hw (by have:=hWI.n3;omega);have e1:=XR w d hw.net;simp only[AD,lent,AA,AJ,fWo,fD]at e1 e3
 cases hnm:Jp w d
 ·rw[hnm]at e1;rw[VF hkb hnm];simp[p36,  e1,e2,e3]
 rw[hnm]at e1;have e4:=ev_do hK hD w d hkb hnm hok hw;have hS:=(NJ (d:=d) hok hw).S;have e5:=E7 (FW w d).1 hS;simp only[AD,lent,AA,AJ,fWo,fD]at e4 e5;generalize FW w d=r at*;obtain⟨v,c⟩:=r;simp only at e4 e5 ⊢;by_cases hc:c=0
 ·subst hc
  cases hv:Ap v
  ·rw[hv]at e5;simp (maxSteps:=9999999) [p36,  e1,e2,e3,e4,e5,hv]
  ·rw[hv]at e5;simp (maxSteps:=9999999) [p36,  e1,e2,e3,e4,e5,hv]
 ·have hcb:(c==0)=false:=beq_eq_false_iff_ne.2 hc;have hcn:(c != 0)=true:=by simp[hc]
  simp (maxSteps:=9999999) [p36,  e1,e2,e3,e4,hc,hcb,hcn]
theorem doW_0 {w:AB} {d:CD} (h:(doW w d).2=0):(doW w d).1=(FW w d).1/\(FW w d).2=0/\Ap (FW w d).1=true/\Ap w=true/\inB d.kind 1 12=true:=by
 unfold doW at h ⊢
 cases hw:Ap w<;>rw[hw]at h
 ·simp at h
 cases hk:inB d.kind 1 12<;>rw[hk]at h
 ·simp at h
 simp only[Bool.not_true,Bool.or_self,Bool.false_eq_true,if_false]at h ⊢;by_cases h0:(FW w d).2=0
 ·rw[if_pos h0]at h ⊢
  cases h1:Ap (FW w d).1<;>rw[h1]at h
  ·simp at h
  ·exact⟨rfl,h0,by trivial,by trivial,by trivial⟩
 ·rw[if_neg h0]at h;exact absurd h h0
def daF (s:AB×LI) (d:CD):AB×LI:=(if(doW s.1 d).2=0 then(doW s.1 d).1 else s.1,s.2++[(doW s.1 d).2])
theorem daF_I {l:List CD}: ∀ {s:AB×LI},Ap s.1=true->wS s.1->Ap (l.foldl daF s).1=true/\wS (l.foldl daF s).1/\(l.foldl daF s).2.length=s.2.length+l.length:=by
 induction l with
 |nil=>intro s h1 h2;exact⟨h1,h2,by simp⟩
 |cons d l ih=>
  intro s h1 h2;have key:Ap (daF s d).1=true/\wS (daF s d).1:=by
   unfold daF;simp only;by_cases h:(doW s.1 d).2=0
   ·rw[if_pos h];obtain⟨a1,_,a2,_⟩:=doW_0 h;rw[a1];exact⟨a2,(NJ h1 h2).S⟩
   ·rw[if_neg h];exact⟨h1,h2⟩
  obtain⟨i1,i2,i3⟩:=ih key.1 key.2;rw[List.foldl_cons];refine⟨i1,i2,?_⟩;rw[i3];unfold daF;simp only[List.length_append,List.length_cons,List.length_nil];omega
@[simp] def st8 (l:List CD) (s:AB×LI) (j:Nat):St:={n:=47,m:=0,tm:=[(4,.pb 10000000 0),(6,.pb 10000001 0),(7,.ref 10000002 []),(25,.im 3 (enc fD l)),(26,.sc (I6 l.length)),(27,.sc (I6 j))],ob:=[(10000000,zwb),(10000001,.box [.ref 10000003 [],.ref 10000004 [],.ref 10000005 [],.ref 10000006 [],.sc (I6 s.1.gen)]),(10000002,.arr 1 (enc fI s.2)),(10000003,.arr 16 (enc fN s.1.nodes)),(10000004,.arr 3 (enc fW s.1.net)),(10000005,.arr 2 (enc fR s.1.log)),(10000006,.arr 1 (enc fI s.1.safe))]}
theorem Xd [PKI] (hK:Cm PK) (hD:X0 PK) (w:AB) (l:List CD) (hok:Ap w=true) (hw:wS w) (hl:l.length<=400):sG 8 [.a (AD (fWo w)),.v (.im 3 (enc fD l))]=some ⟨[.a (AA (fWo (l.foldl daF (w,[])).1)),.v (.own 1 (enc fI (l.foldl daF (w,[])).2))],[],[]⟩:=by
 refine sK p8 ?_;have hf:l.take l.length=l:=List.take_length;have e1:=HF hK w hw (by have:=(A9 hok hw).n3;omega);have e2:=E7 w hw;rw[hok]at e2;have hlp:= @lok _ 10000000 [4,6,7,25,26,27] b8_0 (λj=>st8 l ((l.take j).foldl daF (w,[])) j) l.length (λj hj=>by
  obtain⟨d,hx⟩:=AF hj;obtain⟨_,hx'⟩:=BT hx;have hinc:=Ar hj (by omega);obtain⟨i1,i2,i3⟩:=daF_I (l:=l.take j) (s:=(w,[])) hok hw;have htl:(l.take j).length=j:=by rw[List.length_take];omega
  simp only[Bi daF _ l hx];generalize (l.take j).foldl daF (w,[])=s at*;obtain⟨v,cs⟩:=s;simp only[List.length_nil]at i1 i2 i3;have e:=ev_done hK hD v d i1 i2;unfold daF;simp only[AD,lent,AA,AJ,fWo,fD]at e ⊢;generalize doW v d=r at*;obtain⟨u,c⟩:=r;simp only at e ⊢;have g1:(cs.length+1)*8<=35184372088832:=by omega
  have hen:enc fI cs++[[T.sc (I6 c)]]=enc fI (cs++[c]):=by simp[enc]
  by_cases hc:c=0
  ·have hcb:(c==0)=true:=by simp[hc]
   simp (maxSteps:=9999999) [b8_0,  hj,hx',hinc,e,eq_true hc,hcb,g1,hen]
  ·have hcb:(c==0)=false:=beq_eq_false_iff_ne.2 hc;simp (maxSteps:=9999999) [b8_0,  hj,hx',hinc,e,hc,hcb,g1,hen]) (by simp[b8_0])
 simp only[hf]at hlp;simp only[AD,lent,AA,AJ,fWo]at e1 e2;have hl': ¬ (400:Int)<l.length:=by omega
 simp (maxSteps:=9999999) [p8,  e1,e2,hl'];rw[hlp]
 ·simp (maxSteps:=9999999) [b8_0]
 ·simp
 ·simp
def ME (w:AB) (l:List CD):AB×LI:=if 400<l.length then(w,[])else l.foldl daF (w,[])
theorem ev_DoAllW [PKI] (hK:Cm PK) (hD:X0 PK) (w:AB) (l:List CD) (hok:Ap w=true) (hw:wS w) (hl:l.length<=1048576):sG 8 [.a (AD (fWo w)),.v (.im 3 (enc fD l))]=some ⟨[.a (AA (fWo (ME w l).1)),.v (.own 1 (enc fI (ME w l).2))],[],[]⟩:=by
 unfold ME;by_cases h:400<l.length
 ·rw[if_pos h];refine sK p8 ?_;have e1:=HF hK w hw (by have:=(A9 hok hw).n3;omega);have e2:=E7 w hw;rw[hok]at e2;simp only[AD,lent,AA,AJ,fWo]at e1 e2;have hl':(400:Int)<l.length:=by omega
  simp (maxSteps:=9999999) [p8,  e1,e2,hl']
 ·rw[if_neg h];exact Xd hK hD w l hok hw (by omega)
def GE:Ay:=⟨[1],[[],[],[]],true,false,false,0⟩
theorem Nt:mtS GE:=by
 refine⟨by decide,by decide,?_⟩;intro l hl;simp[GE]at hl;subst hl;exact Nat.zero_le _
theorem UQ:BU GE=true:=by decide
theorem HT [PKI]:sG 170 [.v (.sc (I6 1))]=some ⟨[.a (AA (fM GE))],[],[]⟩:=by
 refine sK p170 ?_;have e:=DH GE Nt;rw[UQ]at e;simp only[AD,lent,fM,GE,List.map,enc,fII,fI]at e;simp[p170,  GE,enc,fII,List.replicate,e]
theorem Mz [PKI]:sG 64 [.v (.sc (I6 1))]=some ⟨[.a (AA (fM GE))],[],[]⟩:=by
 refine sK p64 ?_;have e:=Ce GE Nt;rw[UQ]at e;simp only[AD,lent,fM,GE,List.map,enc,fII,fI]at e;simp[p64,  GE,enc,fII,List.replicate,e]
def I3 (i:Nat):AE:=⟨i,true,false,List.replicate 8 0,GE,Br ⟨[],[]⟩ GE,[false,false,false],[[],[],[]],[false,false,false],[]⟩
theorem Ts [PKI] (x:Int):sG 60 [.v (.sc (I6 x))]=some ⟨[.v (.sc (.bool (inB x 0 2)))],[],[]⟩:=by
 refine sK p60 ?_;have e:=BF x 0 2;simp[p60,  e]
theorem V5:slS ⟨[],[]⟩:=⟨⟨by decide,by intro x h;cases h⟩,⟨by decide,by intro x h;cases h⟩⟩
theorem E5 [PKI] (i:Nat) (hi:i<3):sG 113 [.v (.sc (I6 i))]=some ⟨[.a (AA (fN (I3 i)))],[],[]⟩:=by
 refine sK p113 ?_;have e1:=Ao i 0 2;have e2:=HT;have e3:=Gk;have e4:=Cp ⟨[],[]⟩ GE V5 Nt;have hr:inB (i:Int) 0 2=true:=AP.2 ⟨by omega,by omega⟩;rw[hr]at e1;have h8:enc fI (List.replicate 8 0)=List.replicate 8 [T.sc (I6 0)]:=rfl;have hn:enc fU ([]:LI)=[]:=rfl;simp only[AD,lent,fM,fSl,List.map,hn]at e2 e4;unfold I3;generalize Br ⟨[],[]⟩ GE=sp at*;generalize GE=m at*;generalize enc fI (List.replicate 8 0)=img at*;simp (maxSteps:=9999999) [p113,  e1,e2,e3,e4];exact h8
theorem E8 [PKI] (hCU: ∀l:LI,l.length<=1048576->sG 58 [.v (.im 1 (enc fU l))]=some ⟨[.v (.own 1 (enc fU l))],[],[]⟩) (i:Nat) (hi:i<3):sG 37 [.v (.sc (I6 i))]=some ⟨[.a (AA (fN (I3 i)))],[],[]⟩:=by
 refine sK p37 ?_;have e1:=Ts i;have e2:=Mz;have e3:=MA;have e4:=HW hCU ⟨[],[]⟩ GE V5 Nt;have hr:inB (i:Int) 0 2=true:=AP.2 ⟨by omega,by omega⟩;rw[hr]at e1;have h8:enc fI (List.replicate 8 0)=List.replicate 8 [T.sc (I6 0)]:=rfl;have hn:enc fU ([]:LI)=[]:=rfl;simp only[AD,lent,fM,fSl,List.map,hn]at e2 e4;unfold I3;generalize Br ⟨[],[]⟩ GE=sp at*;generalize GE=m at*;generalize enc fI (List.replicate 8 0)=img at*;simp (maxSteps:=9999999) [p37,  e1,e2,e3,e4];exact h8
end Go.Proofs.YtghgecpicnfgpaaGreat.Ow
