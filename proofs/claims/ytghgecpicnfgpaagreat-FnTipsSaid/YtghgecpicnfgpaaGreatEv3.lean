/- Bytes of a meta, the code: evaluated. -/
import Derived.Test.YtghgecpicnfgpaaGreatEv2
namespace Go.Proofs.YtghgecpicnfgpaaGreat.Ow
open Go
set_option linter.unusedVariables false
set_option linter.unusedSimpArgs false
set_option maxHeartbeats 4000000
theorem Am {p:Nat->Bool} {n j:Nat} (h:Ac p n=true) (hj:j<n):p j=true:=by
 unfold Ac at h;exact List.all_eq_true.1 h j (List.mem_range.2 hj)
theorem AP {x a b:Int}:inB x a b=true<->a<=x/\x<=b:=by unfold inB;simp
theorem gnOk_u {l:LI} (h:Dj l=true):inU l:=λx hx=>by
 obtain⟨j,hj,he⟩:=List.getElem_of_mem hx;unfold Dj at h;rw[Bool.and_eq_true]at h;have h1:=Am h.1 hj;unfold gnP at h1;rw[Bool.and_eq_true,AP]at h1;have hd:l.getD j 0=x:=by simp[List.getD_eq_getElem?_getD,hj,he]
 rw[hd]at h1;omega
theorem mkOk_u {l:LI} (h:Dg l=true):inU l:=λx hx=>by
 obtain⟨j,hj,he⟩:=List.getElem_of_mem hx;have h1:=Am h hj;unfold mkP at h1;rw[Bool.and_eq_true,AP]at h1;have hd:l.getD j 0=x:=by simp[List.getD_eq_getElem?_getD,hj,he]
 rw[hd]at h1;omega
theorem Xo {ll:List LI} (h:ER ll=true): ∀l∈ll,inU l:=λl hl=>by
 obtain⟨j,hj,he⟩:=List.getElem_of_mem hl;have h1:=Am h hj;have hd:ll.getD j []=l:=by simp[List.getD_eq_getElem?_getD,hj,he]
 rw[hd]at h1;exact mkOk_u h1
structure MOk (m:Ay):Prop where
 gens:inU m.gens
 glen:m.gens.length<=12
 gpos:0<m.gens.length
 blen:m.bits.length=3
 bits: ∀l∈m.bits,inU l
 last0:0<=m.last
 last1:m.last<=2147483647
theorem Lm {m:Ay} (h:BU m=true):MOk m:=by
 unfold BU at h;simp only[Bool.and_eq_true]at h;obtain⟨⟨⟨⟨h1,h2⟩,h3,h4⟩,h5⟩,h6⟩:=h;have hg:=h1;unfold Dj at hg;rw[Bool.and_eq_true]at hg;rw[AP]at h5;simp at h2 h3 hg;exact⟨gnOk_u h1,by omega,h2,by omega,Xo h4,h5.1,by omega⟩
def flg (m:Ay):Int:=bit m.fine 1+bit m.old 2+bit m.held 4
theorem Tb (m:Ay):0<=flg m/\flg m<=7:=by unfold flg bit;cases m.fine<;>cases m.old<;>cases m.held<;>simp
def pls (ll:List LI):LI:=(ll.map pl).flatten
def Hv (m:Ay):LI:=pl m.gens++pls m.bits++(Ae (flg m)++Ae m.last)
theorem Ru (ll:List LI) {j:Nat} {x:LI} (h:ll[j]? =some x):pls (ll.take (j+1))=pls (ll.take j)++pl x:=by
 unfold pls;rw[List.take_add_one,h];simp
theorem NH (ll:List LI) (hl: ∀x∈ll,x.length<=1048576) (hu: ∀x∈ll,inU x):(pls ll).length<=5242885*ll.length:=by
 induction ll with
 |nil=>simp[pls]
 |cons x ll ih=>
  have h1:=ih (λy hy=>hl y (List.mem_cons_of_mem _ hy)) (λy hy=>hu y (List.mem_cons_of_mem _ hy));have h2:=Qi x (hl x List.mem_cons_self) (hu x List.mem_cons_self);have h4:=hl x List.mem_cons_self;have h3:pls (x::ll)=pl x++pls ll:=by simp[pls]
  rw[h3,List.length_append,List.length_cons];omega
@[simp] def st209 (m:Ay) (j:Nat):St:={n:=41,m:=0,tm:=[(1,.pb 10000000 0),(3,.ref 10000001 []),(13,.im 1 (enc fII m.bits)),(14,.sc (I6 m.bits.length)),(15,.sc (I6 j))],ob:=[(10000000,Qp m),(10000001,.arr 1 (enc fU (pl m.gens++pls (m.bits.take j))))]}
theorem LC [PKI] (m:Ay) (hm:mtS m) (hok:BU m=true):sG 209 [.a (AD (fM m))]=some ⟨[.v (.own 1 (enc fU (Hv m)))],[],[]⟩:=by
 refine sK p209 ?_;have e0:=Ce m hm;rw[hok]at e0;simp only[AD,lent,fM]at e0;obtain⟨o1,o2,o3,o4,o5,o6,o7⟩:=Lm hok;have e1:=J6 m.gens hm.1 o1;have hgl:=Qi m.gens hm.1 o1;have hstep: ∀j,j<m.bits.length-> ∃s',xG b209_0 (st209 m j)=some (.normal,s')/\s'.m<=10000000/\Aa 10000000 [1,3,13,14,15] s'=st209 m (j+1):=λj hlt=>by
  obtain⟨x,_,hx,hx',hd,hmm⟩:=Ah m.bits hlt;have e:=J6 x (hm.2.2 x hmm) (o5 x hmm);have hpt:=Ru m.bits hx;have hlen:=NH (m.bits.take j) (λy hy=>hm.2.2 y (List.mem_of_mem_take hy)) (λy hy=>o5 y (List.mem_of_mem_take hy));have hlj:(m.bits.take j).length=j:=by rw[List.length_take];omega
  have hxl:=Qi x (hm.2.2 x hmm) (o5 x hmm);have hxl2:=hm.2.2 x hmm;have hap:enc fU (pl m.gens++pls (m.bits.take j))++enc fU (pl x)=enc fU (pl m.gens++pls (m.bits.take (j+1))):=by rw[hpt,AU,List.append_assoc]
  have hb:(pl m.gens).length+(pls (m.bits.take j)).length+(pl x).length<=35184372088832:=by omega
  have hinc:IntKind.wrap .i64 ((j:Int)+1)=(j:Int)+1:=AC (by omega) (by omega);simp[b209_0,  hlt,hx',e,hap,hb,hinc]
 have hsz:= @lok _ 10000000 [1,3,13,14,15] b209_0 (st209 m) m.bits.length hstep (by simp[b209_0]);have f1:=RI m.fine 1;have f2:=RI m.old 2;have f3:=RI m.held 4;have b1:0<=bit m.fine 1/\bit m.fine 1<=1:=by unfold bit;cases m.fine<;>simp
 have b2:0<=bit m.old 2/\bit m.old 2<=2:=by unfold bit;cases m.old<;>simp
 have b3:0<=bit m.held 4/\bit m.held 4<=4:=by unfold bit;cases m.held<;>simp
 have hs1:IntKind.wrap .i64 (bit m.fine 1+bit m.old 2)=bit m.fine 1+bit m.old 2:=AC (by omega) (by omega);have hs2:IntKind.wrap .i64 (bit m.fine 1+bit m.old 2+bit m.held 4)=flg m:=by rw[AC (by omega) (by omega)];rfl
 have fb:=Tb m;have e2:=HC [flg m,m.last] (by simp) (λx hx=>by
  simp only[List.mem_cons,List.not_mem_nil,or_false]at hx;rcases hx with rfl|rfl<;>omega)
 have h2:pns [flg m,m.last]=Ae (flg m)++Ae m.last:=by simp[pns]
 rw[h2]at e2;simp only[BN,BA,fI]at e2;have hall:=NH m.bits hm.2.2 o5;have q1:=A5 fb.1 (by omega);have q2:=A5 o6 o7;have hb:(pl m.gens).length+(pls m.bits).length+((Ae (flg m)).length+(Ae m.last).length)<=35184372088832:=by omega
 have hap:enc fU (pl m.gens++pls m.bits)++enc fU (Ae (flg m)++Ae m.last)=enc fU (Hv m):=by unfold Hv;rw[AU]
 have hz:pls []=[]:=rfl;simp[p209,  e0,e1];rw[hsz]
 ·simp[b209_0,  f1,f2,f3,hs1,hs2,e2,hb,hap]
 ·simp
 ·simp[hz]
theorem J8 [PKI] (m:Ay) (hm:mtS m) (hok:BU m=false):sG 209 [.a (AD (fM m))]=some ⟨[.v (.own 1 [])],[],[]⟩:=by
 refine sK p209 ?_;have e0:=Ce m hm;rw[hok]at e0;simp only[AD,lent,fM]at e0;simp[p209,  e0]
def Az (m:Ay):LI:=if BU m then Hv m else []
theorem IH [PKI] (m:Ay) (hm:mtS m):sG 209 [.a (AD (fM m))]=some ⟨[.v (.own 1 (enc fU (Az m)))],[],[]⟩:=by
 unfold Az
 cases h:BU m with
 |true=>exact LC m hm h
 |false=>exact J8 m hm h
@[simp] def st110_2 (m:Ay) (j:Nat):St:={n:=85,m:=0,tm:=[(1,.pb 10000000 0),(3,.ref 10000001 []),(4,.sc (I6 j))],ob:=[(10000000,Qp m),(10000001,.arr 1 (enc fU (Ae m.gens.length++pns (m.gens.take j))))]}
@[simp] def st110_1 (m:Ay) (j:Nat):St:={n:=85,m:=0,tm:=[(1,.pb 10000200 0),(3,.ref 10000201 []),(5,.sc (I6 j))],ob:=[(10000200,Qp m),(10000201,.arr 1 (enc fU (pl m.gens++pls (m.bits.take j))))]}
@[simp] def st110_0 (m:Ay) (l:LI) (k:Nat) (x:LI) (j:Nat):St:={n:=85,m:=0,tm:=[(1,.pb 10000400 0),(3,.ref 10000401 []),(5,.sc (I6 k)),(6,.sc (I6 j))],ob:=[(10000400,Qp m),(10000401,.arr 1 (enc fU (l++Ae x.length++pns (x.take j))))]}
theorem in110 [PKI] (m:Ay) (l:LI) {k:Nat} {x:LI} (hx:m.bits[k]? =some x) (hxl:x.length<=1048576) (hu:inU x) (hl:l.length<=1073741824): ∀s:St,s.m<=10000400->Aa 10000400 [1,3,5,6] s=st110_0 m l k x 0->
  A6 G PK md 10000400 [1,3,5,6] b186_0 s=xG b186_0 (st110_0 m l k x x.length):=by
 obtain⟨hk,hx'⟩:=BT hx
 have hstep: ∀j,j<x.length-> ∃s',xG b186_0 (st110_0 m l k x j)=some (.normal,s')/\s'.m<=10000400/\Aa 10000400 [1,3,5,6] s'=st110_0 m l k x (j+1):=λj hlt=>by
  obtain⟨y,_,hy,hy',hd⟩:=AK x hlt;obtain⟨u0,u1⟩:=hu y (List.mem_of_getElem? hy);have e:=BY y u0 u1;have hpt:=Hl x hy;have hlen:=EH (x.take j) (H1 hu j);have hlj:(x.take j).length=j:=by rw[List.length_take];omega
  have hap:enc fU (l++Ae x.length++pns (x.take j))++enc fU (Ae y)=enc fU (l++Ae x.length++pns (x.take (j+1))):=by rw[hpt,AU];simp only[List.append_assoc]
  have hp5:=A5 u0 u1;have hp6:=A5 (n:=x.length) (by omega) (by omega);generalize hL:l++Ae x.length++pns (x.take j)=L at hap;have hLl:L.length+(Ae y).length<=35184372088832:=by rw[<-hL];simp only[List.length_append];omega
  have hinc:IntKind.wrap .i64 ((j:Int)+1)=(j:Int)+1:=AC (by omega) (by omega);simp only[st110_0];rw[hL];simp[b186_0,  hlt,hk,hx',hy',e,hap,hLl,hinc]
 exact Ih (st110_0 m l k x) x.length hstep (by simp[b186_0,hk,hx'])
theorem H9 [PKI] (m:Ay) (hm:mtS m):sG 186 [.a (AD (fM m))]=some ⟨[.v (.own 1 (enc fU (Az m)))],[],[]⟩:=by
 refine sK p186 ?_;have e0:=DH m hm;unfold Az
 cases hok:BU m with
 |false=>
  rw[hok]at e0;simp only[AD,lent,fM]at e0;simp[p186,  e0]
 |true=>
  rw[hok]at e0;simp only[AD,lent,fM]at e0;rw[if_pos rfl];obtain⟨o1,o2,o3,o4,o5,o6,o7⟩:=Lm hok;have e1:=BY m.gens.length (by omega) (by omega);have hgl:=Qi m.gens hm.1 o1;have hp6:=A5 (n:=m.gens.length) (by omega) (by omega);have hstep2: ∀j,j<m.gens.length-> ∃s',xG b186_2 (st110_2 m j)=some (.normal,s')/\s'.m<=10000000/\Aa 10000000 [1,3,4] s'=st110_2 m (j+1):=λj hlt=>by
   obtain⟨y,_,hy,hy',hd⟩:=AK m.gens hlt;obtain⟨u0,u1⟩:=o1 y (List.mem_of_getElem? hy);have e:=BY y u0 u1;have hpt:=Hl m.gens hy;have hlen:=EH (m.gens.take j) (H1 o1 j);have hlj:(m.gens.take j).length=j:=by rw[List.length_take];omega
   have hap:enc fU (Ae m.gens.length++pns (m.gens.take j))++enc fU (Ae y)=enc fU (Ae m.gens.length++pns (m.gens.take (j+1))):=by rw[hpt,AU];simp only[List.append_assoc]
   have hp5:=A5 u0 u1;generalize hL:Ae m.gens.length++pns (m.gens.take j)=L at hap;have hLl:L.length+(Ae y).length<=35184372088832:=by rw[<-hL];simp only[List.length_append];omega
   have hinc:IntKind.wrap .i64 ((j:Int)+1)=(j:Int)+1:=AC (by omega) (by omega);simp only[st110_2];rw[hL];simp[b186_2,  hlt,hy',e,hap,hLl,hinc]
  have hsz2:= @lok _ 10000000 [1,3,4] b186_2 (st110_2 m) m.gens.length hstep2 (by simp[b186_2]);have hstep1: ∀j,j<3-> ∃s',xG b186_1 (st110_1 m j)=some (.normal,s')/\s'.m<=10000200/\Aa 10000200 [1,3,5] s'=st110_1 m (j+1):=λj hlt=>by
   obtain⟨x,hj,hx,hx',hd,hmm⟩:=Ah m.bits (j:=j) (by omega);have hxl:=hm.2.2 x hmm;have e:=BY x.length (by omega) (by omega);have hlen:=NH (m.bits.take j) (λy hy=>hm.2.2 y (List.mem_of_mem_take hy)) (λy hy=>o5 y (List.mem_of_mem_take hy));have hlj:(m.bits.take j).length=j:=by rw[List.length_take];omega
   have hpt:=Ru m.bits hx;have hp5:=A5 (n:=x.length) (by omega) (by omega);have hin:=in110 m (pl m.gens++pls (m.bits.take j)) hx hxl (o5 x hmm) (by simp only[List.length_append];omega);have hfin:pl m.gens++pls (m.bits.take j)++Ae x.length++pns x=pl m.gens++pls (m.bits.take (j+1)):=by rw[hpt];unfold pl;simp only[List.append_assoc]
   have hz:pns []=[]:=rfl;have hj3:((j:Nat):Int)<3:=by omega
   have hinc:IntKind.wrap .i64 ((j:Int)+1)=(j:Int)+1:=AC (by omega) (by omega);generalize hL:pl m.gens++pls (m.bits.take j)=L at hin hfin;have hLl:L.length+(Ae x.length).length<=35184372088832:=by rw[<-hL];simp only[List.length_append];omega
   have hap:enc fU L++enc fU (Ae x.length)=enc fU (L++Ae x.length):=by rw[AU]
   simp only[st110_1];rw[hL,<-hfin];simp[b186_1,  hj3,hj,hx',e,hLl,hap];rw[hin]
   ·simp[b186_0,hj,hx',hinc]
   ·simp
   ·simp[hz]
  have hsz1:= @lok _ 10000200 [1,3,5] b186_1 (st110_1 m) 3 hstep1 (by simp[b186_1]);have f1:=Dm m.fine;have f2:=Dm m.old;have f3:=Dm m.held;have b1:0<=bit m.fine 1/\bit m.fine 1<=1:=by unfold bit;cases m.fine<;>simp
  have b2:IntKind.wrap .i64 (2*bit m.old 1)=bit m.old 2:=by unfold bit;cases m.old<;>rfl
  have b3:IntKind.wrap .i64 (4*bit m.held 1)=bit m.held 4:=by unfold bit;cases m.held<;>rfl
  have b4:0<=bit m.old 2/\bit m.old 2<=2:=by unfold bit;cases m.old<;>simp
  have b5:0<=bit m.held 4/\bit m.held 4<=4:=by unfold bit;cases m.held<;>simp
  have hs1:IntKind.wrap .i64 (bit m.fine 1+bit m.old 2)=bit m.fine 1+bit m.old 2:=AC (by omega) (by omega);have hs2:IntKind.wrap .i64 (bit m.fine 1+bit m.old 2+bit m.held 4)=flg m:=by rw[AC (by omega) (by omega)];rfl
  have fb:=Tb m;have q1:=A5 fb.1 (by omega);have q2:=A5 o6 o7;have e3:=BY (flg m) fb.1 (by omega);have e4:=BY m.last o6 o7;have hall:=NH m.bits hm.2.2 o5;have ht3:m.bits.take 3=m.bits:=by rw[<-o4];exact List.take_length
  have hz:pns []=[]:=rfl;have hz2:pls []=[]:=rfl;have hpl:Ae m.gens.length++pns m.gens=pl m.gens:=rfl;generalize hL:pl m.gens++pls m.bits=L;have hLl:L.length+(Ae (flg m)).length<=35184372088832:=by rw[<-hL];simp only[List.length_append];omega
  have hLl2:L.length+(Ae (flg m)).length+(Ae m.last).length<=35184372088832:=by rw[<-hL];simp only[List.length_append];omega
  have hap1:enc fU L++enc fU (Ae (flg m))=enc fU (L++Ae (flg m)):=by rw[AU]
  have hap2:enc fU (L++Ae (flg m))++enc fU (Ae m.last)=enc fU (Hv m):=by unfold Hv;rw[hL,AU,List.append_assoc]
  simp[p186,  e0,e1];rw[hsz2]
  ·simp[b186_2,hpl];rw[hsz1]
   ·simp[b186_1,  ht3,hL,f1,f2,f3,b2,b3,hs1,hs2,e3,e4,hLl,hLl2,hap1,hap2]
   ·simp
   ·simp[hz2]
  ·simp
  ·simp[hz]
def u8s (l:LI):List UInt8:=l.map λn=>UInt8.ofNat n.toNat
theorem Bb: ∀l:LI,CY (enc fU l)=some (u8s l)
 |[]=>rfl
 |n::l=>by
  rw[BN];simp only[fU,CY,Bb l];rfl
theorem Gw: ∀ {l m:LI},(∀x∈l,0<=x/\x<256)->(∀x∈m,0<=x/\x<256)->u8s l=u8s m->l=m
 |[],[],_,_,_=>rfl
 |[],_::_,_,_,h=>by simp[u8s]at h
 |_::_,[],_,_,h=>by simp[u8s]at h
 |x::l,y::m,hl,hm,h=>by
  simp only[u8s,List.map_cons,List.cons.injEq]at h;have h1:=hl x List.mem_cons_self;have h2:=hm y List.mem_cons_self;have h3:x.toNat=y.toNat:=by
   have:=congrArg UInt8.toNat h.1;simpa[UInt8.toNat_ofNat,Nat.mod_eq_of_lt (show x.toNat<256 by omega),Nat.mod_eq_of_lt (show y.toNat<256 by omega)]using this
  rw[show x=y by omega,Gw (λz hz=>hl z (List.mem_cons_of_mem _ hz)) (λz hz=>hm z (List.mem_cons_of_mem _ hz)) h.2]
theorem S2 {l m:LI} (hl: ∀x∈l,0<=x/\x<256) (hm: ∀x∈m,0<=x/\x<256):((⟨(u8s l).toArray⟩:ByteArray).toList==(⟨(u8s m).toArray⟩:ByteArray).toList)=decide (l=m):=by
 rw[ByteArray.toList_eq,ByteArray.toList_eq];by_cases h:l=m
 ·subst h;simp
 ·have: ¬u8s l=u8s m:=λe=>h (Gw hl hm e)
  simp[h,this]
theorem Ej [PKI] (l m:LI) (hl: ∀x∈l,0<=x/\x<256) (hm: ∀x∈m,0<=x/\x<256):sG 207 [.v (.im 1 (enc fU l)),.v (.im 1 (enc fU m))]=some ⟨[.v (.sc (.bool (decide (l=m))))],[],[]⟩:=by
 refine sK p207 ?_;have e:=S2 hl hm;simp[p207,Bb];simpa using e
def ag (c d:Nat×Bool):Prop:=c.2=d.2/\(c.2=true->c.1=d.1)
theorem GC {b:LI} {c d:Nat×Bool} (h:ag c d):(num false b c).1=(num true b d).1/\ag (num false b c).2 (num true b d).2:=by
 obtain⟨a,ok⟩:=c;obtain⟨a',ok'⟩:=d;obtain⟨h1,h2⟩:=h;simp only at h1 h2;subst h1
 cases ok with
 |false=>exact⟨rfl,rfl,λh=>by cases h⟩
 |true=>
  have h2:=h2 rfl;subst h2;unfold num;simp only[if_true]
  cases E4 b a with
  |none=>exact⟨rfl,rfl,λh=>by cases h⟩
  |some x=>exact⟨rfl,rfl,λ_=>rfl⟩
theorem TV {b:LI} {c d:Nat×Bool} (h:ag c d): ∀j,(itn false b c j).2=(itn true b d j).2/\ag (itn false b c j).1 (itn true b d j).1
 |0=>⟨rfl,h⟩
 |j+1=>by
  obtain⟨h1,h2⟩:=TV (b:=b) h j;obtain⟨g1,g2⟩:=GC (b:=b) h2;simp only[itn];rw[h2.1,h1,g1];split
  ·exact⟨rfl,g2⟩
  ·exact⟨h1 ▸ rfl,h2⟩
theorem WH {b:LI} {c d:Nat×Bool} (h:ag c d):(rdl false b c).2=(rdl true b d).2/\ag (rdl false b c).1 (rdl true b d).1:=by
 obtain⟨g1,g2⟩:=GC (b:=b) h;unfold rdl;rw[g1];exact TV g2 _
theorem Ue {b:LI} (a:Nat): ∀ (f k:Nat) n q,N9 b a f k=some (n,q)->a<q/\q<=b.length
 |0,k,n,q,h=>by cases h
 |f+1,k,n,q,h=>by
  simp only[N9]at h;split at h
  ·split at h
   ·exact Ue a f (k+1) n q h
   ·split at h
    ·cases h
    ·cases h
     omega
  ·cases h
theorem FX {z:Bool} {b:LI} (c:Nat×Bool) (hc:c.1<=b.length):(num z b c).2.1<=b.length/\((num z b c).2.2=true->c.1<(num z b c).2.1):=by
 unfold num;split
 ·cases h:E4 b c.1 with
  |none=>cases z<;>simp[hc]
  |some x=>
   obtain⟨n,q⟩:=x;obtain⟨h1,h2⟩:=Ue c.1 5 0 n q h;exact⟨h2,λ_=>h1⟩
 ·exact⟨hc,λh=>by cases h⟩
theorem Km {z:Bool} {b:LI} {c:Nat×Bool} (hc:c.1<=b.length): ∀j,(itn z b c j).1.1<=b.length/\((itn z b c j).1.2=true->c.1+(itn z b c j).2.length<=(itn z b c j).1.1)/\(itn z b c j).2.length<=b.length+1
 |0=>⟨hc,λ_=>by simp[itn],by simp[itn]⟩
 |j+1=>by
  obtain⟨h1,h2,h3⟩:=Km (z:=z) hc j;simp only[itn];split
  ·rename_i hok;obtain⟨g1,g2⟩:=FX (z:=z) _ h1;have h2:=h2 hok;refine⟨g1,λh=> ?_,by simp;omega⟩;have:=g2 h;simp;omega
  ·exact⟨h1,h2,h3⟩
theorem NF {z:Bool} {b:LI} {c:Nat×Bool} (hc:c.1<=b.length):(rdl z b c).1.1<=b.length/\(rdl z b c).2.length<=b.length+1:=by
 have:=Km (z:=z) (b:=b) (c:=(num z b c).2) (FX c hc).1 (num z b c).1.toNat;exact⟨this.1,this.2.2⟩
def ET (n:Int):LI:=[n%256,n / 256%256,n / 65536%256,n / 16777216%256]
theorem Uh (n:Int): ∀x∈ET n,0<=x/\x<256:=λx hx=>by
 simp only[ET,List.mem_cons,List.not_mem_nil,or_false]at hx;rcases hx with rfl|rfl|rfl|rfl<;>omega
theorem Fs (x:Int):IntKind.wrap .u8 x=x%256:=by simp[IntKind.wrap,IntKind.bits,IntKind.signed]
theorem T5 (n:Int):bits .and .i64 n 255=n%256:=by
 have h255:(BitVec.ofInt 64 255).toNat=2 ^ 8 - 1:=by decide
 have key:(BitVec.ofInt 64 n&&& BitVec.ofInt 64 255).toNat=(n%((2 ^ 64:Nat):Int)).toNat%2 ^ 8:=by
  rw[BitVec.toNat_and,BitVec.toNat_ofInt,h255,Nat.and_two_pow_sub_one_eq_mod]
 show IntKind.i64.wrap ((BitVec.ofInt 64 n&&& BitVec.ofInt 64 255).toNat:Nat)=n%256
 rw[key,AC (by omega) (by omega)];omega
theorem fd1 (x:Int):x.fdiv 256=x / 256:=Int.fdiv_eq_ediv_of_nonneg _ (by omega)
theorem fd2 (x:Int):x.fdiv 65536=x / 65536:=Int.fdiv_eq_ediv_of_nonneg _ (by omega)
theorem fd3 (x:Int):x.fdiv 16777216=x / 16777216:=Int.fdiv_eq_ediv_of_nonneg _ (by omega)
theorem Uj [PKI] (n:Int):sG 210 [.v (.sc (I6 n))]=some ⟨[.v (.own 1 (enc fU (ET n)))],[],[]⟩:=by
 refine sK p210 ?_;have b1:min 8 IntKind.i64.bits=8:=rfl;have b2:min 16 IntKind.i64.bits=16:=rfl;have b3:min 24 IntKind.i64.bits=24:=rfl;simp[p210,  ET,b1,b2,b3,fd1,fd2,fd3,Fs]
theorem SW [PKI] (n:Int):sG 139 [.v (.sc (I6 n))]=some ⟨[.v (.own 1 (enc fU (ET n)))],[],[]⟩:=by
 refine sK p139 ?_;have b1:min 8 IntKind.i64.bits=8:=rfl;have b2:min 16 IntKind.i64.bits=16:=rfl;have b3:min 24 IntKind.i64.bits=24:=rfl;simp[p139,  ET,b1,b2,b3,fd1,fd2,fd3,Fs,T5]
def Cz (x:LI) (n:Int):LI:=ET n++[(x.length:Int)%256]++x
def Em (x:LI) (n:Int):LI:=Cz x n++List.replicate (151 - x.length) 0++ET n
theorem Kx [PKI] (m:Ay) (n:Int) (hm:mtS m) (hx:(Az m).length<=151):sG 169 [.a (AD (fM m)),.v (.sc (I6 n))]=some ⟨[.v (.own 1 (enc fU (Em (Az m) n)))],[],[]⟩:=by
 refine sK p169 ?_;have e1:=IH m hm;have e2:=Uj n;simp only[AD,lent,fM]at e1;generalize Az m=x at e1 hx ⊢;have h4:(ET n).length=4:=rfl;have ha1:enc fU (ET n)++[[T.sc (.int .u8 ((x.length:Int)%256))]]=enc fU (ET n++[(x.length:Int)%256]):=by simp[enc]
 have ha2:enc fU (ET n++[(x.length:Int)%256])++enc fU x=enc fU (Cz x n):=by rw[AU];rfl
 have hal:(Cz x n).length=5+x.length:=by simp[Cz,h4];omega
 have ha3:enc fU (Cz x n)++List.replicate (151 - x.length) [T.sc (.int .u8 0)]=enc fU (Cz x n++List.replicate (151 - x.length) 0):=by simp[enc]
 have ha4:enc fU (Cz x n++List.replicate (151 - x.length) 0)++enc fU (ET n)=enc fU (Em x n):=by rw[AU];rfl
 have hb1:5+x.length<=35184372088832:=by omega
 have hb2:5+x.length+(151 - x.length)<=35184372088832:=by omega
 have hb3:5+x.length+(151 - x.length)+4<=35184372088832:=by omega
 have hw:IntKind.wrap .i64 (156 - (5+(x.length:Int)))=((151 - x.length:Nat):Int):=by rw[AC (by omega) (by omega)];omega
 generalize ET n=F at e2 h4 ha1 ha2 ha4;generalize hA:Cz x n=A at ha2 hal ha3 ha4;generalize hN:151 - x.length=N at ha3 ha4 hw hb2 hb3;simp[p169,  e1,e2,Fs,ha1,ha2,h4,hb1,hal,hw,hb2,hb3,ha3,ha4]
@[simp] def st143 (x:LI) (n:Int) (j:Nat):St:={n:=29,m:=0,tm:=[(1,.sc (I6 n)),(6,.ref 10000000 [])],ob:=[(10000000,.arr 1 (enc fU (Cz x n++List.replicate j 0)))]}
theorem QH [PKI] (m:Ay) (n:Int) (hm:mtS m) (hx:(Az m).length<=151):sG 143 [.a (AD (fM m)),.v (.sc (I6 n))]=some ⟨[.v (.own 1 (enc fU (Em (Az m) n)))],[],[]⟩:=by
 refine sK p143 ?_;have e1:=H9 m hm;have e2:=SW n;simp only[AD,lent,fM]at e1;generalize Az m=x at e1 hx ⊢;have h4:(ET n).length=4:=rfl;have ha1:enc fU (ET n)++[[T.sc (.int .u8 ((x.length:Int)%256))]]=enc fU (ET n++[(x.length:Int)%256]):=by simp[enc]
 have ha2:enc fU (ET n++[(x.length:Int)%256])++enc fU x=enc fU (Cz x n):=by rw[AU];rfl
 have hal:(Cz x n).length=5+x.length:=by simp[Cz,h4];omega
 have ha4:enc fU (Cz x n++List.replicate (151 - x.length) 0)++enc fU (ET n)=enc fU (Em x n):=by rw[AU];rfl
 have hb1:5+x.length<=35184372088832:=by omega
 have hstep: ∀j,j<151 - x.length-> ∃s',xG b143_0 (st143 x n j)=some (.normal,s')/\s'.m<=10000000/\Aa 10000000 [1,6] s'=st143 x n (j+1):=λj hlt=>by
  have hrep:enc fU (Cz x n++List.replicate j 0)++[[T.sc (.int .u8 0)]]=enc fU (Cz x n++List.replicate (j+1) 0):=by rw[List.replicate_succ'];simp[enc]
  have hlen:(Cz x n++List.replicate j 0).length=5+x.length+j:=by simp[hal]
  simp only[st143];generalize Cz x n++List.replicate j 0=A at hrep hlen ⊢;have hc:(5+(x.length:Int)+j)<156:=by omega
  have hb:5+x.length+j+1<=35184372088832:=by omega
  simp[b143_0,  hlen,hc,hb,hrep]
 have hend: ¬ (5+(x.length:Int)+((151 - x.length:Nat):Int))<156:=by omega
 have hlen:(Cz x n++List.replicate (151 - x.length) 0).length=5+x.length+(151 - x.length):=by simp[hal]
 generalize hA:Cz x n++List.replicate (151 - x.length) 0=A at ha4 hlen;have hlen2:A.length=156:=by omega
 have hsz:= @lok _ 10000000 [1,6] b143_0 (st143 x n) (151 - x.length) hstep (by
  simp only[st143];rw[hA];simp[b143_0,hlen2])
 simp only[st143]at hsz;rw[hA]at hsz;have hz:Cz x n++List.replicate 0 0=Cz x n:=by simp
 rw[hz]at hsz;generalize Cz x n=A0 at ha2 hal hsz;generalize ET n=F at e2 h4 ha1 ha2 ha4;simp[p143,  e1,e2,Fs,ha1,ha2,h4,hb1,hal];rw[hsz]
 ·simp[b143_0,  hlen2,e2,ha4,h4]
 ·simp
 ·simp
end Go.Proofs.YtghgecpicnfgpaaGreat.Ow
