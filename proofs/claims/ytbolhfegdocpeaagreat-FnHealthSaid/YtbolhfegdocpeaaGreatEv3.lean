/- Bytes of a meta, the code: evaluated. -/
import Derived.Test.YtbolhfegdocpeaaGreatEv2
namespace Go.Proofs.YtbolhfegdocpeaaGreat.Ow
open Go
set_option linter.unusedVariables false
set_option linter.unusedSimpArgs false
set_option maxHeartbeats 4000000
variable {PK:Nat->List Arg->Option Res}
theorem Ar {p:Nat->Bool} {n j:Nat} (h:Af p n=true) (hj:j<n):p j=true:=by
 unfold Af at h;exact List.all_eq_true.1 h j (List.mem_range.2 hj)
theorem Ab {x a b:Int}:inB x a b=true<->a<=x/\x<=b:=by unfold inB;simp
theorem gnOk_u {l:List Int} (h:De l=true):inU l:=fun x hx=>by
 obtain⟨j,hj,he⟩:=List.getElem_of_mem hx;unfold De at h;rw[Bool.and_eq_true]at h;have h1:=Ar h.1 hj;unfold gnP at h1;rw[Bool.and_eq_true,Ab]at h1;have hd:l.getD j 0=x:=by simp[List.getD_eq_getElem?_getD,hj,he]
 rw[hd]at h1;omega
theorem mkOk_u {l:List Int} (h:C5 l=true):inU l:=fun x hx=>by
 obtain⟨j,hj,he⟩:=List.getElem_of_mem hx;have h1:=Ar h hj;unfold mkP at h1;rw[Bool.and_eq_true,Ab]at h1;have hd:l.getD j 0=x:=by simp[List.getD_eq_getElem?_getD,hj,he]
 rw[hd]at h1;omega
theorem Ug {ll:List (List Int)} (h:Dd ll=true): ∀l∈ll,inU l:=fun l hl=>by
 obtain⟨j,hj,he⟩:=List.getElem_of_mem hl;have h1:=Ar h hj;have hd:ll.getD j []=l:=by simp[List.getD_eq_getElem?_getD,hj,he]
 rw[hd]at h1;exact mkOk_u h1
structure MOk (m:Av):Prop where
 gens:inU m.gens
 glen:m.gens.length<=12
 gpos:0<m.gens.length
 blen:m.bits.length=3
 bits: ∀l∈m.bits,inU l
 last0:0<=m.last
 last1:m.last<=2147483647
theorem Ja {m:Av} (h:BP m=true):MOk m:=by
 unfold BP at h;simp only[Bool.and_eq_true]at h;obtain⟨⟨⟨⟨h1,h2⟩,h3,h4⟩,h5⟩,h6⟩:=h;have hg:=h1;unfold De at hg;rw[Bool.and_eq_true]at hg;rw[Ab]at h5;simp at h2 h3 hg;exact⟨gnOk_u h1,by omega,h2,by omega,Ug h4,h5.1,by omega⟩
def flg (m:Av):Int:=bit m.fine 1+bit m.old 2+bit m.held 4
theorem Qv (m:Av):0<=flg m/\flg m<=7:=by unfold flg bit;cases m.fine<;>cases m.old<;>cases m.held<;>simp
def pls (ll:List (List Int)):List Int:=(ll.map pl).flatten
def Gi (m:Av):List Int:=pl m.gens++pls m.bits++(Al (flg m)++Al m.last)
theorem PE (ll:List (List Int)) {j:Nat} {x:List Int} (h:ll[j]? =some x):pls (ll.take (j+1))=pls (ll.take j)++pl x:=by
 unfold pls;rw[List.take_add_one,h];simp
theorem Ki (ll:List (List Int)) (hl: ∀x∈ll,x.length<=1048576) (hu: ∀x∈ll,inU x):(pls ll).length<=5242885*ll.length:=by
 induction ll with
 |nil=>simp[pls]
 |cons x ll ih=>
  have h1:=ih (fun y hy=>hl y (List.mem_cons_of_mem _ hy)) (fun y hy=>hu y (List.mem_cons_of_mem _ hy));have h2:=N9 x (hl x List.mem_cons_self) (hu x List.mem_cons_self);have h4:=hl x List.mem_cons_self;have h3:pls (x::ll)=pl x++pls ll:=by simp[pls]
  rw[h3,List.length_append,List.length_cons];omega
@[simp] def st219 (m:Av) (j:Nat):St:={n:=41,m:=0,tm:=[(1,.pb 10000000 0),(3,.ref 10000001 []),(13,.im 1 (enc fII m.bits)),(14,.sc (.int .i64 m.bits.length)),(15,.sc (.int .i64 j))],ob:=[(10000000,OJ m),(10000001,.arr 1 (enc fU (pl m.gens++pls (m.bits.take j))))]}
theorem JA (m:Av) (hm:mtS m) (hok:BP m=true):AH G PK md 219 [.a (AJ (fM m))]=some ⟨[.v (.own 1 (enc fU (Gi m)))],[],[]⟩:=by
 refine AA (pf:=p219) rfl (by simp[p219]) ?_;have e0:=Ee (PK:=PK) m hm;rw[hok]at e0;simp only[AJ,lent,fM]at e0;obtain⟨o1,o2,o3,o4,o5,o6,o7⟩:=Ja hok;have e1:=L9 (PK:=PK) m.gens hm.1 o1;have hgl:=N9 m.gens hm.1 o1;have hstep: ∀j,j<m.bits.length-> ∃s',An (AH G PK md) (Ag G PK md) md b219_0 (st219 m j)=some (.normal,s')/\s'.m<=10000000/\Ai 10000000 [1,3,13,14,15] s'=st219 m (j+1):=fun j hlt=>by
  obtain⟨x,_,hx,hx',hd,hmm⟩:=Ax m.bits hlt;have e:=L9 (PK:=PK) x (hm.2.2 x hmm) (o5 x hmm);have hpt:=PE m.bits hx;have hlen:=Ki (m.bits.take j) (fun y hy=>hm.2.2 y (List.mem_of_mem_take hy)) (fun y hy=>o5 y (List.mem_of_mem_take hy));have hlj:(m.bits.take j).length=j:=by rw[List.length_take];omega
  have hxl:=N9 x (hm.2.2 x hmm) (o5 x hmm);have hxl2:=hm.2.2 x hmm;have hap:enc fU (pl m.gens++pls (m.bits.take j))++enc fU (pl x)=enc fU (pl m.gens++pls (m.bits.take (j+1))):=by rw[hpt,Ac,List.append_assoc]
  have hb:(pl m.gens).length+(pls (m.bits.take j)).length+(pl x).length<=35184372088832:=by omega
  have hinc:IntKind.wrap .i64 ((j:Int)+1)=(j:Int)+1:=AC (by omega) (by omega);simp[b219_0,md,hlt,hx',e,hap,hb,hinc]
 have hsz:=AL (G:=G) (PK:=PK) (md:=md) (o:=10000000) (live:=[1,3,13,14,15]) (c:=b219_0) (st219 m) m.bits.length hstep (by simp[b219_0]);have f1:=Oe (PK:=PK) m.fine 1;have f2:=Oe (PK:=PK) m.old 2;have f3:=Oe (PK:=PK) m.held 4;have b1:0<=bit m.fine 1/\bit m.fine 1<=1:=by unfold bit;cases m.fine<;>simp
 have b2:0<=bit m.old 2/\bit m.old 2<=2:=by unfold bit;cases m.old<;>simp
 have b3:0<=bit m.held 4/\bit m.held 4<=4:=by unfold bit;cases m.held<;>simp
 have hs1:IntKind.wrap .i64 (bit m.fine 1+bit m.old 2)=bit m.fine 1+bit m.old 2:=AC (by omega) (by omega);have hs2:IntKind.wrap .i64 (bit m.fine 1+bit m.old 2+bit m.held 4)=flg m:=by rw[AC (by omega) (by omega)];rfl
 have fb:=Qv m;have e2:=IQ (PK:=PK) [flg m,m.last] (by simp) (fun x hx=>by
  simp only[List.mem_cons,List.not_mem_nil,or_false]at hx;rcases hx with rfl|rfl<;>omega)
 have h2:pns [flg m,m.last]=Al (flg m)++Al m.last:=by simp[pns]
 rw[h2]at e2;simp only[BZ,BK,fI]at e2;have hall:=Ki m.bits hm.2.2 o5;have q1:=A4 fb.1 (by omega);have q2:=A4 o6 o7;have hb:(pl m.gens).length+(pls m.bits).length+((Al (flg m)).length+(Al m.last).length)<=35184372088832:=by omega
 have hap:enc fU (pl m.gens++pls m.bits)++enc fU (Al (flg m)++Al m.last)=enc fU (Gi m):=by unfold Gi;rw[Ac]
 have hz:pls []=[]:=rfl;simp[p219,md,e0,e1];rw[hsz]
 ·simp[b219_0,md,f1,f2,f3,hs1,hs2,e2,hb,hap]
 ·simp
 ·simp[hz]
theorem IS (m:Av) (hm:mtS m) (hok:BP m=false):AH G PK md 219 [.a (AJ (fM m))]=some ⟨[.v (.own 1 [])],[],[]⟩:=by
 refine AA (pf:=p219) rfl (by simp[p219]) ?_;have e0:=Ee (PK:=PK) m hm;rw[hok]at e0;simp only[AJ,lent,fM]at e0;simp[p219,md,e0]
def Au (m:Av):List Int:=if BP m then Gi m else []
theorem G0 (m:Av) (hm:mtS m):AH G PK md 219 [.a (AJ (fM m))]=some ⟨[.v (.own 1 (enc fU (Au m)))],[],[]⟩:=by
 unfold Au
 cases h:BP m with
 |true=>exact JA m hm h
 |false=>exact IS m hm h
@[simp] def st110_2 (m:Av) (j:Nat):St:={n:=85,m:=0,tm:=[(1,.pb 10000000 0),(3,.ref 10000001 []),(4,.sc (.int .i64 j))],ob:=[(10000000,OJ m),(10000001,.arr 1 (enc fU (Al m.gens.length++pns (m.gens.take j))))]}
@[simp] def st110_1 (m:Av) (j:Nat):St:={n:=85,m:=0,tm:=[(1,.pb 10000200 0),(3,.ref 10000201 []),(5,.sc (.int .i64 j))],ob:=[(10000200,OJ m),(10000201,.arr 1 (enc fU (pl m.gens++pls (m.bits.take j))))]}
@[simp] def st110_0 (m:Av) (l:List Int) (k:Nat) (x:List Int) (j:Nat):St:={n:=85,m:=0,tm:=[(1,.pb 10000400 0),(3,.ref 10000401 []),(5,.sc (.int .i64 k)),(6,.sc (.int .i64 j))],ob:=[(10000400,OJ m),(10000401,.arr 1 (enc fU (l++Al x.length++pns (x.take j))))]}
theorem in110 (m:Av) (l:List Int) {k:Nat} {x:List Int} (hx:m.bits[k]? =some x) (hxl:x.length<=1048576) (hu:inU x) (hl:l.length<=1073741824): ∀s:St,s.m<=10000400->Ai 10000400 [1,3,5,6] s=st110_0 m l k x 0->
  Ag G PK md 10000400 [1,3,5,6] b180_0 s=An (AH G PK md) (Ag G PK md) md b180_0 (st110_0 m l k x x.length):=by
 obtain⟨hk,hx'⟩:=Ba hx
 have hstep: ∀j,j<x.length-> ∃s',An (AH G PK md) (Ag G PK md) md b180_0 (st110_0 m l k x j)=some (.normal,s')/\s'.m<=10000400/\Ai 10000400 [1,3,5,6] s'=st110_0 m l k x (j+1):=fun j hlt=>by
  obtain⟨y,_,hy,hy',hd⟩:=AT x hlt;obtain⟨u0,u1⟩:=hu y (List.mem_of_getElem? hy);have e:=BL (PK:=PK) y u0 u1;have hpt:=GX x hy;have hlen:=DK (x.take j) (Gm hu j);have hlj:(x.take j).length=j:=by rw[List.length_take];omega
  have hap:enc fU (l++Al x.length++pns (x.take j))++enc fU (Al y)=enc fU (l++Al x.length++pns (x.take (j+1))):=by rw[hpt,Ac];simp only[List.append_assoc]
  have hp5:=A4 u0 u1;have hp6:=A4 (n:=x.length) (by omega) (by omega);generalize hL:l++Al x.length++pns (x.take j)=L at hap;have hLl:L.length+(Al y).length<=35184372088832:=by rw[←hL];simp only[List.length_append];omega
  have hinc:IntKind.wrap .i64 ((j:Int)+1)=(j:Int)+1:=AC (by omega) (by omega);simp only[st110_0];rw[hL];simp[b180_0,md,hlt,hk,hx',hy',e,hap,hLl,hinc]
 exact AL (st110_0 m l k x) x.length hstep (by simp[b180_0,hk,hx'])
theorem Gv (m:Av) (hm:mtS m):AH G PK md 180 [.a (AJ (fM m))]=some ⟨[.v (.own 1 (enc fU (Au m)))],[],[]⟩:=by
 refine AA (pf:=p180) rfl (by simp[p180]) ?_;have e0:=Ce (PK:=PK) m hm;unfold Au
 cases hok:BP m with
 |false=>
  rw[hok]at e0;simp only[AJ,lent,fM]at e0;simp[p180,md,e0]
 |true=>
  rw[hok]at e0;simp only[AJ,lent,fM]at e0;rw[if_pos rfl];obtain⟨o1,o2,o3,o4,o5,o6,o7⟩:=Ja hok;have e1:=BL (PK:=PK) m.gens.length (by omega) (by omega);have hgl:=N9 m.gens hm.1 o1;have hp6:=A4 (n:=m.gens.length) (by omega) (by omega);have hstep2: ∀j,j<m.gens.length-> ∃s',An (AH G PK md) (Ag G PK md) md b180_2 (st110_2 m j)=some (.normal,s')/\s'.m<=10000000/\Ai 10000000 [1,3,4] s'=st110_2 m (j+1):=fun j hlt=>by
   obtain⟨y,_,hy,hy',hd⟩:=AT m.gens hlt;obtain⟨u0,u1⟩:=o1 y (List.mem_of_getElem? hy);have e:=BL (PK:=PK) y u0 u1;have hpt:=GX m.gens hy;have hlen:=DK (m.gens.take j) (Gm o1 j);have hlj:(m.gens.take j).length=j:=by rw[List.length_take];omega
   have hap:enc fU (Al m.gens.length++pns (m.gens.take j))++enc fU (Al y)=enc fU (Al m.gens.length++pns (m.gens.take (j+1))):=by rw[hpt,Ac];simp only[List.append_assoc]
   have hp5:=A4 u0 u1;generalize hL:Al m.gens.length++pns (m.gens.take j)=L at hap;have hLl:L.length+(Al y).length<=35184372088832:=by rw[←hL];simp only[List.length_append];omega
   have hinc:IntKind.wrap .i64 ((j:Int)+1)=(j:Int)+1:=AC (by omega) (by omega);simp only[st110_2];rw[hL];simp[b180_2,md,hlt,hy',e,hap,hLl,hinc]
  have hsz2:=AL (G:=G) (PK:=PK) (md:=md) (o:=10000000) (live:=[1,3,4]) (c:=b180_2) (st110_2 m) m.gens.length hstep2 (by simp[b180_2]);have hstep1: ∀j,j<3-> ∃s',An (AH G PK md) (Ag G PK md) md b180_1 (st110_1 m j)=some (.normal,s')/\s'.m<=10000200/\Ai 10000200 [1,3,5] s'=st110_1 m (j+1):=fun j hlt=>by
   obtain⟨x,hj,hx,hx',hd,hmm⟩:=Ax m.bits (j:=j) (by omega);have hxl:=hm.2.2 x hmm;have e:=BL (PK:=PK) x.length (by omega) (by omega);have hlen:=Ki (m.bits.take j) (fun y hy=>hm.2.2 y (List.mem_of_mem_take hy)) (fun y hy=>o5 y (List.mem_of_mem_take hy));have hlj:(m.bits.take j).length=j:=by rw[List.length_take];omega
   have hpt:=PE m.bits hx;have hp5:=A4 (n:=x.length) (by omega) (by omega);have hin:=in110 (PK:=PK) m (pl m.gens++pls (m.bits.take j)) hx hxl (o5 x hmm) (by simp only[List.length_append];omega);have hfin:pl m.gens++pls (m.bits.take j)++Al x.length++pns x=pl m.gens++pls (m.bits.take (j+1)):=by rw[hpt];unfold pl;simp only[List.append_assoc]
   have hz:pns []=[]:=rfl;have hj3:((j:Nat):Int)<3:=by omega
   have hinc:IntKind.wrap .i64 ((j:Int)+1)=(j:Int)+1:=AC (by omega) (by omega);generalize hL:pl m.gens++pls (m.bits.take j)=L at hin hfin;have hLl:L.length+(Al x.length).length<=35184372088832:=by rw[←hL];simp only[List.length_append];omega
   have hap:enc fU L++enc fU (Al x.length)=enc fU (L++Al x.length):=by rw[Ac]
   simp only[st110_1];rw[hL,←hfin];simp[b180_1,md,hj3,hj,hx',e,hLl,hap];rw[hin]
   ·simp[b180_0,hj,hx',hinc]
   ·simp
   ·simp[hz]
  have hsz1:=AL (G:=G) (PK:=PK) (md:=md) (o:=10000200) (live:=[1,3,5]) (c:=b180_1) (st110_1 m) 3 hstep1 (by simp[b180_1]);have f1:=DZ (PK:=PK) m.fine;have f2:=DZ (PK:=PK) m.old;have f3:=DZ (PK:=PK) m.held;have b1:0<=bit m.fine 1/\bit m.fine 1<=1:=by unfold bit;cases m.fine<;>simp
  have b2:IntKind.wrap .i64 (2*bit m.old 1)=bit m.old 2:=by unfold bit;cases m.old<;>rfl
  have b3:IntKind.wrap .i64 (4*bit m.held 1)=bit m.held 4:=by unfold bit;cases m.held<;>rfl
  have b4:0<=bit m.old 2/\bit m.old 2<=2:=by unfold bit;cases m.old<;>simp
  have b5:0<=bit m.held 4/\bit m.held 4<=4:=by unfold bit;cases m.held<;>simp
  have hs1:IntKind.wrap .i64 (bit m.fine 1+bit m.old 2)=bit m.fine 1+bit m.old 2:=AC (by omega) (by omega);have hs2:IntKind.wrap .i64 (bit m.fine 1+bit m.old 2+bit m.held 4)=flg m:=by rw[AC (by omega) (by omega)];rfl
  have fb:=Qv m;have q1:=A4 fb.1 (by omega);have q2:=A4 o6 o7;have e3:=BL (PK:=PK) (flg m) fb.1 (by omega);have e4:=BL (PK:=PK) m.last o6 o7;have hall:=Ki m.bits hm.2.2 o5;have ht3:m.bits.take 3=m.bits:=by rw[←o4];exact List.take_length
  have hz:pns []=[]:=rfl;have hz2:pls []=[]:=rfl;have hpl:Al m.gens.length++pns m.gens=pl m.gens:=rfl;generalize hL:pl m.gens++pls m.bits=L;have hLl:L.length+(Al (flg m)).length<=35184372088832:=by rw[←hL];simp only[List.length_append];omega
  have hLl2:L.length+(Al (flg m)).length+(Al m.last).length<=35184372088832:=by rw[←hL];simp only[List.length_append];omega
  have hap1:enc fU L++enc fU (Al (flg m))=enc fU (L++Al (flg m)):=by rw[Ac]
  have hap2:enc fU (L++Al (flg m))++enc fU (Al m.last)=enc fU (Gi m):=by unfold Gi;rw[hL,Ac,List.append_assoc]
  simp[p180,md,e0,e1];rw[hsz2]
  ·simp[b180_2,hpl];rw[hsz1]
   ·simp[b180_1,md,ht3,hL,f1,f2,f3,b2,b3,hs1,hs2,e3,e4,hLl,hLl2,hap1,hap2]
   ·simp
   ·simp[hz2]
  ·simp
  ·simp[hz]
def u8s (l:List Int):List UInt8:=l.map fun n=>UInt8.ofNat n.toNat
theorem BN: ∀l:List Int,B5 (enc fU l)=some (u8s l)
 |[]=>rfl
 |n::l=>by
  rw[BZ];simp only[fU,B5,BN l];rfl
theorem Fh: ∀ {l m:List Int},(∀x∈l,0<=x/\x<256)->(∀x∈m,0<=x/\x<256)->u8s l=u8s m->l=m
 |[],[],_,_,_=>rfl
 |[],_::_,_,_,h=>by simp[u8s]at h
 |_::_,[],_,_,h=>by simp[u8s]at h
 |x::l,y::m,hl,hm,h=>by
  simp only[u8s,List.map_cons,List.cons.injEq]at h;have h1:=hl x List.mem_cons_self;have h2:=hm y List.mem_cons_self;have h3:x.toNat=y.toNat:=by
   have:=congrArg UInt8.toNat h.1;simpa[UInt8.toNat_ofNat,Nat.mod_eq_of_lt (show x.toNat<256 by omega),Nat.mod_eq_of_lt (show y.toNat<256 by omega)]using this
  rw[show x=y by omega,Fh (fun z hz=>hl z (List.mem_cons_of_mem _ hz)) (fun z hz=>hm z (List.mem_cons_of_mem _ hz)) h.2]
theorem QP {l m:List Int} (hl: ∀x∈l,0<=x/\x<256) (hm: ∀x∈m,0<=x/\x<256):((⟨(u8s l).toArray⟩:ByteArray).toList==(⟨(u8s m).toArray⟩:ByteArray).toList)=decide (l=m):=by
 rw[ByteArray.toList_eq,ByteArray.toList_eq];by_cases h:l=m
 ·subst h;simp
 ·have: ¬u8s l=u8s m:=fun e=>h (Fh hl hm e)
  simp[h,this]
theorem Hp (l m:List Int) (hl: ∀x∈l,0<=x/\x<256) (hm: ∀x∈m,0<=x/\x<256):AH G PK md 195 [.v (.im 1 (enc fU l)),.v (.im 1 (enc fU m))]=some ⟨[.v (.sc (.bool (decide (l=m))))],[],[]⟩:=by
 refine AA (pf:=p195) rfl (by simp[p195]) ?_;have e:=QP hl hm;simp[p195,BN];simpa using e
def ag (c d:Nat×Bool):Prop:=c.2=d.2/\(c.2=true->c.1=d.1)
theorem OD {b:List Int} {c d:Nat×Bool} (h:ag c d):(num false b c).1=(num true b d).1/\ag (num false b c).2 (num true b d).2:=by
 obtain⟨a,ok⟩:=c;obtain⟨a',ok'⟩:=d;obtain⟨h1,h2⟩:=h;simp only at h1 h2;subst h1
 cases ok with
 |false=>exact⟨rfl,rfl,fun h=>by cases h⟩
 |true=>
  have h2:=h2 rfl;subst h2;unfold num;simp only[if_true]
  cases Eb b a with
  |none=>exact⟨rfl,rfl,fun h=>by cases h⟩
  |some x=>exact⟨rfl,rfl,fun _=>rfl⟩
theorem T9 {b:List Int} {c d:Nat×Bool} (h:ag c d): ∀j,(itn false b c j).2=(itn true b d j).2/\ag (itn false b c j).1 (itn true b d j).1
 |0=>⟨rfl,h⟩
 |j+1=>by
  obtain⟨h1,h2⟩:=T9 (b:=b) h j;obtain⟨g1,g2⟩:=OD (b:=b) h2;simp only[itn];rw[h2.1,h1,g1];split
  ·exact⟨rfl,g2⟩
  ·exact⟨h1 ▸ rfl,h2⟩
theorem TR {b:List Int} {c d:Nat×Bool} (h:ag c d):(rdl false b c).2=(rdl true b d).2/\ag (rdl false b c).1 (rdl true b d).1:=by
 obtain⟨g1,g2⟩:=OD (b:=b) h;unfold rdl;rw[g1];exact T9 g2 _
theorem Ru {b:List Int} (a:Nat): ∀ (f k:Nat) n q,Mv b a f k=some (n,q)->a<q/\q<=b.length
 |0,k,n,q,h=>by cases h
 |f+1,k,n,q,h=>by
  simp only[Mv]at h;split at h
  ·split at h
   ·exact Ru a f (k+1) n q h
   ·split at h
    ·cases h
    ·cases h
     omega
  ·cases h
theorem Lb {z:Bool} {b:List Int} (c:Nat×Bool) (hc:c.1<=b.length):(num z b c).2.1<=b.length/\((num z b c).2.2=true->c.1<(num z b c).2.1):=by
 unfold num;split
 ·cases h:Eb b c.1 with
  |none=>cases z<;>simp[hc]
  |some x=>
   obtain⟨n,q⟩:=x;obtain⟨h1,h2⟩:=Ru c.1 5 0 n q h;exact⟨h2,fun _=>h1⟩
 ·exact⟨hc,fun h=>by cases h⟩
theorem Km {z:Bool} {b:List Int} {c:Nat×Bool} (hc:c.1<=b.length): ∀j,(itn z b c j).1.1<=b.length/\((itn z b c j).1.2=true->c.1+(itn z b c j).2.length<=(itn z b c j).1.1)/\(itn z b c j).2.length<=b.length+1
 |0=>⟨hc,fun _=>by simp[itn],by simp[itn]⟩
 |j+1=>by
  obtain⟨h1,h2,h3⟩:=Km (z:=z) hc j;simp only[itn];split
  ·rename_i hok;obtain⟨g1,g2⟩:=Lb (z:=z) _ h1;have h2:=h2 hok;refine⟨g1,fun h=> ?_,by simp;omega⟩;have:=g2 h;simp;omega
  ·exact⟨h1,h2,h3⟩
theorem Kh {z:Bool} {b:List Int} {c:Nat×Bool} (hc:c.1<=b.length):(rdl z b c).1.1<=b.length/\(rdl z b c).2.length<=b.length+1:=by
 have:=Km (z:=z) (b:=b) (c:=(num z b c).2) (Lb c hc).1 (num z b c).1.toNat;exact⟨this.1,this.2.2⟩
def EA (n:Int):List Int:=[n%256,n / 256%256,n / 65536%256,n / 16777216%256]
theorem Rx (n:Int): ∀x∈EA n,0<=x/\x<256:=fun x hx=>by
 simp only[EA,List.mem_cons,List.not_mem_nil,or_false]at hx;rcases hx with rfl|rfl|rfl|rfl<;>omega
theorem Fg (x:Int):IntKind.wrap .u8 x=x%256:=by simp[IntKind.wrap,IntKind.bits,IntKind.signed]
theorem RI (n:Int):bits .and .i64 n 255=n%256:=by
 have h255:(BitVec.ofInt 64 255).toNat=2 ^ 8 - 1:=by decide
 have key:(BitVec.ofInt 64 n&&& BitVec.ofInt 64 255).toNat=(n%((2 ^ 64:Nat):Int)).toNat%2 ^ 8:=by
  rw[BitVec.toNat_and,BitVec.toNat_ofInt,h255,Nat.and_two_pow_sub_one_eq_mod]
 show IntKind.i64.wrap ((BitVec.ofInt 64 n&&& BitVec.ofInt 64 255).toNat:Nat)=n%256
 rw[key,AC (by omega) (by omega)];omega
theorem fd1 (x:Int):x.fdiv 256=x / 256:=Int.fdiv_eq_ediv_of_nonneg _ (by omega)
theorem fd2 (x:Int):x.fdiv 65536=x / 65536:=Int.fdiv_eq_ediv_of_nonneg _ (by omega)
theorem fd3 (x:Int):x.fdiv 16777216=x / 16777216:=Int.fdiv_eq_ediv_of_nonneg _ (by omega)
theorem ev_four (n:Int):AH G PK md 220 [.v (.sc (.int .i64 n))]=some ⟨[.v (.own 1 (enc fU (EA n)))],[],[]⟩:=by
 refine AA (pf:=p220) rfl (by simp[p220]) ?_;have b1:min 8 IntKind.i64.bits=8:=rfl;have b2:min 16 IntKind.i64.bits=16:=rfl;have b3:min 24 IntKind.i64.bits=24:=rfl;simp[p220,md,EA,b1,b2,b3,fd1,fd2,fd3,Fg]
theorem Pt (n:Int):AH G PK md 153 [.v (.sc (.int .i64 n))]=some ⟨[.v (.own 1 (enc fU (EA n)))],[],[]⟩:=by
 refine AA (pf:=p153) rfl (by simp[p153]) ?_;have b1:min 8 IntKind.i64.bits=8:=rfl;have b2:min 16 IntKind.i64.bits=16:=rfl;have b3:min 24 IntKind.i64.bits=24:=rfl;simp[p153,md,EA,b1,b2,b3,fd1,fd2,fd3,Fg,RI]
def CT (x:List Int) (n:Int):List Int:=EA n++[(x.length:Int)%256]++x
def EE (x:List Int) (n:Int):List Int:=CT x n++List.replicate (151 - x.length) 0++EA n
theorem Oa (m:Av) (n:Int) (hm:mtS m) (hx:(Au m).length<=151):AH G PK md 196 [.a (AJ (fM m)),.v (.sc (.int .i64 n))]=some ⟨[.v (.own 1 (enc fU (EE (Au m) n)))],[],[]⟩:=by
 refine AA (pf:=p196) rfl (by simp[p196]) ?_;have e1:=G0 (PK:=PK) m hm;have e2:=ev_four (PK:=PK) n;simp only[AJ,lent,fM]at e1;generalize Au m=x at e1 hx ⊢;have h4:(EA n).length=4:=rfl;have ha1:enc fU (EA n)++[[T.sc (.int .u8 ((x.length:Int)%256))]]=enc fU (EA n++[(x.length:Int)%256]):=by simp[enc]
 have ha2:enc fU (EA n++[(x.length:Int)%256])++enc fU x=enc fU (CT x n):=by rw[Ac];rfl
 have hal:(CT x n).length=5+x.length:=by simp[CT,h4];omega
 have ha3:enc fU (CT x n)++List.replicate (151 - x.length) [T.sc (.int .u8 0)]=enc fU (CT x n++List.replicate (151 - x.length) 0):=by simp[enc]
 have ha4:enc fU (CT x n++List.replicate (151 - x.length) 0)++enc fU (EA n)=enc fU (EE x n):=by rw[Ac];rfl
 have hb1:5+x.length<=35184372088832:=by omega
 have hb2:5+x.length+(151 - x.length)<=35184372088832:=by omega
 have hb3:5+x.length+(151 - x.length)+4<=35184372088832:=by omega
 have hw:IntKind.wrap .i64 (156 - (5+(x.length:Int)))=((151 - x.length:Nat):Int):=by rw[AC (by omega) (by omega)];omega
 generalize EA n=F at e2 h4 ha1 ha2 ha4;generalize hA:CT x n=A at ha2 hal ha3 ha4;generalize hN:151 - x.length=N at ha3 ha4 hw hb2 hb3;simp[p196,md,e1,e2,Fg,ha1,ha2,h4,hb1,hal,hw,hb2,hb3,ha3,ha4]
@[simp] def st158 (x:List Int) (n:Int) (j:Nat):St:={n:=29,m:=0,tm:=[(1,.sc (.int .i64 n)),(6,.ref 10000000 [])],ob:=[(10000000,.arr 1 (enc fU (CT x n++List.replicate j 0)))]}
theorem Nj (m:Av) (n:Int) (hm:mtS m) (hx:(Au m).length<=151):AH G PK md 158 [.a (AJ (fM m)),.v (.sc (.int .i64 n))]=some ⟨[.v (.own 1 (enc fU (EE (Au m) n)))],[],[]⟩:=by
 refine AA (pf:=p158) rfl (by simp[p158]) ?_;have e1:=Gv (PK:=PK) m hm;have e2:=Pt (PK:=PK) n;simp only[AJ,lent,fM]at e1;generalize Au m=x at e1 hx ⊢;have h4:(EA n).length=4:=rfl;have ha1:enc fU (EA n)++[[T.sc (.int .u8 ((x.length:Int)%256))]]=enc fU (EA n++[(x.length:Int)%256]):=by simp[enc]
 have ha2:enc fU (EA n++[(x.length:Int)%256])++enc fU x=enc fU (CT x n):=by rw[Ac];rfl
 have hal:(CT x n).length=5+x.length:=by simp[CT,h4];omega
 have ha4:enc fU (CT x n++List.replicate (151 - x.length) 0)++enc fU (EA n)=enc fU (EE x n):=by rw[Ac];rfl
 have hb1:5+x.length<=35184372088832:=by omega
 have hstep: ∀j,j<151 - x.length-> ∃s',An (AH G PK md) (Ag G PK md) md b158_0 (st158 x n j)=some (.normal,s')/\s'.m<=10000000/\Ai 10000000 [1,6] s'=st158 x n (j+1):=fun j hlt=>by
  have hrep:enc fU (CT x n++List.replicate j 0)++[[T.sc (.int .u8 0)]]=enc fU (CT x n++List.replicate (j+1) 0):=by rw[List.replicate_succ'];simp[enc]
  have hlen:(CT x n++List.replicate j 0).length=5+x.length+j:=by simp[hal]
  simp only[st158];generalize CT x n++List.replicate j 0=A at hrep hlen ⊢;have hc:(5+(x.length:Int)+j)<156:=by omega
  have hb:5+x.length+j+1<=35184372088832:=by omega
  simp[b158_0,md,hlen,hc,hb,hrep]
 have hend: ¬ (5+(x.length:Int)+((151 - x.length:Nat):Int))<156:=by omega
 have hlen:(CT x n++List.replicate (151 - x.length) 0).length=5+x.length+(151 - x.length):=by simp[hal]
 generalize hA:CT x n++List.replicate (151 - x.length) 0=A at ha4 hlen;have hlen2:A.length=156:=by omega
 have hsz:=AL (G:=G) (PK:=PK) (md:=md) (o:=10000000) (live:=[1,6]) (c:=b158_0) (st158 x n) (151 - x.length) hstep (by
  simp only[st158];rw[hA];simp[b158_0,hlen2])
 simp only[st158]at hsz;rw[hA]at hsz;have hz:CT x n++List.replicate 0 0=CT x n:=by simp
 rw[hz]at hsz;generalize CT x n=A0 at ha2 hal hsz;generalize EA n=F at e2 h4 ha1 ha2 ha4;simp[p158,md,e1,e2,Fg,ha1,ha2,h4,hb1,hal];rw[hsz]
 ·simp[b158_0,md,hlen2,e2,ha4,h4]
 ·simp
 ·simp
end Go.Proofs.YtbolhfegdocpeaaGreat.Ow
