/- Functions evaluated on the small machine: Copying: the program's own way, Worlds copied, wires kept and found: the program's own way, Wires found and taken out: the program's own way, A line cut: what the program makes of a world. -/
import Derived.Test.YtghgecpicnfgpaaGreatEv22
import Derived.Test.YtghgecpicnfgpaaGreatEv21
import Derived.Test.YtghgecpicnfgpaaGreatEv16
import Derived.Test.YtghgecpicnfgpaaGreatEv15
import Derived.Test.YtghgecpicnfgpaaGreatEv8
import Derived.Test.YtghgecpicnfgpaaGreatEv20
namespace Go.Proofs.YtghgecpicnfgpaaGreat.Ow
open Go
set_option linter.unusedVariables false
set_option linter.unusedSimpArgs false
set_option maxHeartbeats 16000000
set_option maxRecDepth 100000
theorem VI {l:LI} (h:Dg l=true) (h0:0<l.length):clr l (l.getD 0 0)=l.drop 1:=by
 cases l with
 |nil=>simp at h0
 |cons x l=>
  simp only[List.getD_cons_zero,List.drop_succ_cons,List.drop_zero];unfold clr;rw[List.filter_cons];simp only[decide_true,Bool.not_true,Bool.false_eq_true,if_false];refine List.filter_eq_self.2 λy hy=> ?_
  obtain⟨j,hj,rfl⟩:=List.getElem_of_mem hy;have h1: ∀j,j<l.length->x<(x::l).getD (j+1) 0:=by
   intro j
   induction j with
   |zero=>
    intro hj;have h2:=Am h (j:=1) (by simp;omega);unfold mkP at h2;simp only[Bool.and_eq_true,Bool.or_eq_true,decide_eq_true_iff]at h2;rcases h2.2 with h3|h3
    ·omega
    ·simpa using h3
   |succ j ih=>
    intro hj;have h4:=ih (by omega);have h2:=Am h (j:=j+1+1) (by simp;omega);unfold mkP at h2;simp only[Bool.and_eq_true,Bool.or_eq_true,decide_eq_true_iff]at h2;rcases h2.2 with h3|h3
    ·omega
    ·have h3:(x::l).getD (j+1) 0<(x::l).getD (j+1+1) 0:=by simpa using h3
     exact Int.lt_trans h4 h3
  have h2:=h1 j hj;simp only[List.getD_cons_succ]at h2;rw[BP (List.getElem?_eq_getElem hj)]at h2;simp;omega
theorem RG [PKI] (hK:Cm PK) (n:AE) (to:Int) (hn:nB n):sG 161 [.a (AD (fN n)),.v (.sc (I6 to))]=some ⟨[.a (AA (fN (Ep n to).1)),.v (.own 7 (enc fP (Ep n to).2))],[],[]⟩:=by
 refine sK p161 ?_;have e1:=Ak n hn.nS;have e2:=BH hK n hn.nS;have e3:=DU to;simp only[AD,lent,fN,AA,AJ]at e1 e2;unfold Ep
 cases h1:AL n
 ·simp[p161,  e1,e2,h1]
 have nn:=Ai h1
 cases h3:inB to 0 2
 ·simp[p161,  e1,e2,e3,h1,h3]
 have r3:=AP.1 h3;obtain⟨k,rfl⟩: ∃k:Nat,to=(k:Int):=⟨to.toNat,by omega⟩;obtain⟨c,q1,hc,hc',hcd⟩:=Aj n.copies (j:=k) (by have:=hn.copies;omega);simp only[Int.toNat_natCast,hcd]
 cases c
 ·simp[p161,  e1,e2,e3,h1,h3,q1,hc']
 obtain⟨l,q2,hl,hl',hld,hlm⟩:=Ah n.sync (j:=k) (by have:=hn.sync;omega);rw[hld];by_cases h4:0<l.length
 ·obtain⟨v,q3,hv,hv',hvd⟩:=AK l h4;have hdr:=VI (nn.syn8 l hlm) h4;have hm:=Wg (nn.syn8 l hlm) v (by rw[<-hv'];exact List.getElem_mem _);have hm7:v<=7:=by
   have:=nn.syn8 l hlm;unfold Dg at this;have:=Am this h4;unfold mkP at this;rw[hvd]at this;simp only[Bool.and_eq_true]at this;exact(AP.1 this.1).2
  rw[hvd]at hdr ⊢;obtain⟨j,rfl⟩: ∃j:Nat,v=(j:Int):=⟨v.toNat,by omega⟩;have h8:=Il nn.img;obtain⟨u,q4,hu,hu',hud⟩:=AK n.image (j:=j) (by omega);simp only[Int.toNat_natCast,hud];have hll:=Ec (nn.syn8 l hlm);rw[List.drop_one]at hdr;have e5:=hK.ci l.tail (by rw[List.length_tail];omega);have s1:=A3 fII n.sync k l.tail;have t1:(List.take l.length (enc fI l)).tail=enc fI l.tail:=by rw[List.take_of_length_le (by rw[Bx];exact Nat.le_refl _)];cases l<;>rfl
  rw[hdr];simp at s1;have g4:1<=l.length:=h4;simp (maxSteps:=9999999) [p161,  e1,e2,e3,e5,h1,h3,h4,g4,q1,hc',q2,hl',q3,hv',q4,hu',s1,t1]
 ·have e4:=Bp hK n.mt hn.mt;have hS:nS {n with copies:=n.copies.set k false}:=⟨hn.nS.image,hn.mt,hn.sl,hn.nS.conn,hn.nS.sync,by simp only[List.length_set];exact hn.nS.copies,hn.nS.wait⟩;have hcm:mtS (Mm n (k:Int)):=hn.mt;have e5:=F4 hK {n with copies:=n.copies.set k false} (Mm n (k:Int)) hS hcm;have e7:=CO n.id;have e8:=hK.ci n.mt.gens hn.mt.1;have s1:=A3 fL n.copies k false;simp at s1;rw[show A7 {n with copies:=n.copies.set k false} (Mm n (k:Int))=IM n (k:Int)from rfl]at e5;generalize IM n (k:Int)=q at*;unfold Mm at e5;simp only[AD,lent,fN,fM,AA,AJ,kpF]at e4 e5
  cases hh:n.mt.held
  ·rw[hh]at e1 e2 e4 e5;simp only[Bool.false_and]at e5;by_cases hm:(k:Int)=Dd n.id
   ·cases h5:AL q
    ·rw[h5]at e5;simp (maxSteps:=9999999) [p161,  e1,e2,e3,e4,e5,e7,h1,h3,h4,q1,hc',q2,hl',s1,hh,eq_true hm]
    ·rw[h5]at e5;simp (maxSteps:=9999999) [p161,  e1,e2,e3,e4,e5,e7,e8,h1,h3,h4,q1,hc',q2,hl',s1,hh,eq_true hm]
   ·cases h5:AL q
    ·rw[h5]at e5;simp (maxSteps:=9999999) [p161,  e1,e2,e3,e4,e5,e7,h1,h3,h4,q1,hc',q2,hl',s1,hh,hm]
    ·rw[h5]at e5;simp (maxSteps:=9999999) [p161,  e1,e2,e3,e4,e5,e7,e8,h1,h3,h4,q1,hc',q2,hl',s1,hh,hm]
  ·rw[hh]at e1 e2 e4 e5;simp only[Bool.true_and]at e5;by_cases hm:(k:Int)=Dd n.id
   ·have hd:decide ((k:Int)≠Dd n.id)=false:=by simp[hm]
    rw[hd]at e5
    cases h5:AL q
    ·rw[h5]at e5;simp (maxSteps:=9999999) [p161,  e1,e2,e3,e4,e5,e7,h1,h3,h4,q1,hc',q2,hl',s1,hh,eq_true hm]
    ·rw[h5]at e5;simp (maxSteps:=9999999) [p161,  e1,e2,e3,e4,e5,e7,e8,h1,h3,h4,q1,hc',q2,hl',s1,hh,eq_true hm]
   ·have hd:decide ((k:Int)≠Dd n.id)=true:=by simp[hm]
    rw[hd]at e5
    cases h5:AL q
    ·rw[h5]at e5;simp (maxSteps:=9999999) [p161,  e1,e2,e3,e4,e5,e7,h1,h3,h4,q1,hc',q2,hl',s1,hh,hm]
    ·rw[h5]at e5;simp (maxSteps:=9999999) [p161,  e1,e2,e3,e4,e5,e7,e8,h1,h3,h4,q1,hc',q2,hl',s1,hh,hm]
@[simp] def st34_1 (w:AB) (j:Nat):St:=
 if j=0 then {n:=54,m:=0,tm:=[(1,.pb 10000000 0),(2,.pb 10000001 0),(3,.pb 10000002 0),(18,.im 16 (enc fN w.nodes)),(19,.sc (I6 w.nodes.length)),(20,.sc (I6 j))],ob:=[(10000000,Ey w),(10000001,zwb),(10000002,.box [.nil 16,.nil 3,.ref 10000003 [],.ref 10000004 [],.sc (I6 w.gen)]),(10000003,.arr 2 (enc fR w.log)),(10000004,.arr 1 (enc fI w.safe))]}
 else {n:=54,m:=0,tm:=[(1,.pb 10000000 0),(2,.pb 10000001 0),(3,.pb 10000002 0),(18,.im 16 (enc fN w.nodes)),(19,.sc (I6 w.nodes.length)),(20,.sc (I6 j))],ob:=[(10000000,Ey w),(10000001,zwb),(10000002,.box [.ref 10000003 [],.nil 3,.ref 10000004 [],.ref 10000005 [],.sc (I6 w.gen)]),(10000003,.arr 16 (enc fN (w.nodes.take j))),(10000004,.arr 2 (enc fR w.log)),(10000005,.arr 1 (enc fI w.safe))]}
@[simp] def st34_0 (w:AB) (j:Nat):St:=
 if j=0 then {n:=54,m:=0,tm:=[(2,.pb 10000200 0),(3,.pb 10000201 0),(33,.im 3 (enc fW w.net)),(34,.sc (I6 w.net.length)),(35,.sc (I6 j))],ob:=[(10000200,zwb),(10000201,.box [.ref 10000202 [],.nil 3,.ref 10000203 [],.ref 10000204 [],.sc (I6 w.gen)]),(10000202,.arr 16 (enc fN w.nodes)),(10000203,.arr 2 (enc fR w.log)),(10000204,.arr 1 (enc fI w.safe))]}
 else {n:=54,m:=0,tm:=[(2,.pb 10000200 0),(3,.pb 10000201 0),(33,.im 3 (enc fW w.net)),(34,.sc (I6 w.net.length)),(35,.sc (I6 j))],ob:=[(10000200,zwb),(10000201,.box [.ref 10000202 [],.ref 10000203 [],.ref 10000204 [],.ref 10000205 [],.sc (I6 w.gen)]),(10000202,.arr 16 (enc fN w.nodes)),(10000203,.arr 3 (enc fW (w.net.take j))),(10000204,.arr 2 (enc fR w.log)),(10000205,.arr 1 (enc fI w.safe))]}
theorem PM [PKI] (hK:Cm PK) (w:AB) (hw:wS w): ∀ (s:St),s.m<=10000000->Aa 10000000 [1,2,3,18,19,20] s=st34_1 w 0->A6 G PK md 10000000 [1,2,3,18,19,20] b34_1 s=xG b34_1 (st34_1 w w.nodes.length):=
 @lok _ 10000000 [1,2,3,18,19,20] b34_1 (st34_1 w) w.nodes.length (λj hj=>by
  obtain⟨x,y1,hx,hx',_,hxm⟩:=AX w.nodes zN hj;have hinc:=Ar hj hw.nodes;have hwn:=hw.nodes;have e:=BH hK x (hw.node x hxm);simp only[AD,lent,fN,AA,AJ]at e;have g5:(j+1)*248<=35184372088832:=by omega
  have hmin:min j w.nodes.length=j:=by omega
  have hen:enc fN (List.take (j+1) w.nodes)=enc fN (List.take j w.nodes)++[fN x]:=by rw[DJ hx];simp[enc]
  by_cases h0:j=0
  ·subst h0;simp at hx' hinc hen;simp (maxSteps:=9999999) [b34_1,  hj,hx',e,hinc];simpa using hen.symm
  ·simp at hen;simp (maxSteps:=9999999) [b34_1,  hj,hx',e,g5,hmin,hinc,h0,hen]) (by
  by_cases h0:w.nodes.length=0
  ·simp[b34_1,h0]
  ·simp[b34_1,h0])
theorem PN [PKI] (hK:Cm PK) (w:AB) (hw:wS w): ∀ (s:St),s.m<=10000200->Aa 10000200 [2,3,33,34,35] s=st34_0 w 0->A6 G PK md 10000200 [2,3,33,34,35] b34_0 s=xG b34_0 (st34_0 w w.net.length):=
 @lok _ 10000200 [2,3,33,34,35] b34_0 (st34_0 w) w.net.length (λj hj=>by
  obtain⟨x,y1,hx,hx',_,hxm⟩:=AX w.net zW hj;have hinc:=Ar hj hw.net;have hwn:=hw.net;have hxl:=(hw.wire x hxm).1;have e:=hK.cu x.bytes (by omega);have g5:(j+1)*40<=35184372088832:=by omega
  have hmin:min j w.net.length=j:=by omega
  have hen:enc fW (List.take (j+1) w.net)=enc fW (List.take j w.net)++[fW x]:=by rw[DJ hx];simp[enc]
  by_cases h0:j=0
  ·subst h0;simp at hx' hinc hen;simp (maxSteps:=9999999) [b34_0,  hj,hx',e,hinc];simpa using hen.symm
  ·simp at hen;simp (maxSteps:=9999999) [b34_0,  hj,hx',e,g5,hmin,hinc,h0,hen]) (by
  by_cases h0:w.net.length=0
  ·simp[b34_0,h0]
  ·simp[b34_0,h0])
theorem HF [PKI] (hK:Cm PK) (w:AB) (hw:wS w) (h3:w.nodes.length≠0):sG 34 [.a (AD (fWo w))]=some ⟨[.a (AA (fWo w))],[],[]⟩:=by
 refine sK p34 ?_;have h1:=PM hK w hw;have h0:=PN hK w hw;have e1:=hK.cr w.log hw.log;have e2:=hK.ci w.safe hw.safe;simp (maxSteps:=9999999) [p34,  e1,e2];rw[h1]
 ·simp[b34_1,h3];rw[h0]
  ·by_cases hn:w.net.length=0
   ·have:w.net=[]:=List.eq_nil_of_length_eq_zero hn;simp[b34_0,this]
   ·simp[b34_0,hn]
  ·simp
  ·simp
 ·simp
 ·simp
theorem ev_cut1 [PKI] (a b:Int) (x:BD):sG 152 [.a (AD (fW x)),.pi [.sc (I6 a)],.pi [.sc (I6 b)]]=some ⟨[.v (.sc (.bool (!CW a b x)))],[],[]⟩:=by
 refine sK p152 ?_;unfold CW;rcases tfb x.src a with ⟨c1,d1⟩|⟨c1,d1⟩<;>rcases tfb x.dst b with ⟨c2,d2⟩|⟨c2,d2⟩<;>rcases tfb x.src b with ⟨c3,d3⟩|⟨c3,d3⟩<;>rcases tfb x.dst a with ⟨c4,d4⟩|⟨c4,d4⟩<;>
  simp[p152,  c1,c2,c3,c4,d1,d2,d3,d4]
theorem XQ [PKI] (x:BD):sG 164 [.a (AD (fW x))]=some ⟨[.v (.sc (.bool (!(decide (x.src=2)||decide (x.dst=2)))))],[],[]⟩:=by
 refine sK p164 ?_;rcases tfb x.src 2 with ⟨c1,d1⟩|⟨c1,d1⟩<;>rcases tfb x.dst 2 with ⟨c2,d2⟩|⟨c2,d2⟩<;>
  simp[p164,  c1,c2,d1,d2]
theorem XX [PKI] (x y:BD):sG 156 [.a (AD (fW x)),.pi (fW y)]=some ⟨[.v (.sc (.bool (decide (x.src=y.src)&&decide (x.dst=y.dst))))],[],[]⟩:=by
 refine sK p156 ?_;rcases tfb x.src y.src with ⟨c1,d1⟩|⟨c1,d1⟩<;>rcases tfb x.dst y.dst with ⟨c2,d2⟩|⟨c2,d2⟩<;>
  simp[p156,  c1,c2,d1,d2]
theorem XW [PKI] (x:Int) (n:AE) (hn:n.wait.length<=1048576):sG 160 [.v (.sc (I6 x)),.pi (fN n)]=some ⟨[.v (.sc (.bool (decide (x∈n.wait))))],[],[]⟩:=by
 refine sK p160 ?_;have e:=BQ n.wait x hn;simp[p160,  e]
@[simp] def st155_0 (F:Nat) (l:List BD) (j:Nat):St:={n:=19,m:=0,tm:=[(0,.im 3 (enc fW l)),(1,.clo F []),(7,.sc (I6 l.length)),(8,.sc (I6 j))],ob:=[]}
theorem Oi [PKI] (F:Nat) (q:BD->Bool) (l:List BD) (hl:l.length<=1048576) (hF:md F=[]) (e: ∀x,sG F [.a (AD (fW x))]=some ⟨[.v (.sc (.bool (q x)))],[],[]⟩):
  sG 155 [.v (.im 3 (enc fW l)),.c F []]=some ⟨[.v (.sc (I6 (FL (λj=> !q (l.getD j zW)) l.length)))],[],[]⟩:=by
 refine sK p155 ?_
 obtain⟨k,hk,hp,hkn⟩:=first (λj=>(!q (l.getD j zW))=true) l.length
 have hstep: ∀j,j<k-> ∃s',xG b155_0 (st155_0 F l j)=some (.normal,s')/\s'.m<=10000000/\Aa 10000000 [0,1,7,8] s'=st155_0 F l (j+1):=λj hj=>by
  have hlt:j<l.length:=by omega
  have h1:(!q (l.getD j zW))=true:=hp j hj;obtain⟨x,_,hx,hx',hd,_⟩:=AX l zW (j:=j) (by omega);rw[hd]at h1;have h2:q x=false:=by simpa using h1
  have e:=e x;rw[h2]at e;simp only[AD,lent,fW]at e;simp[-md,b155_0,hF,hlt,Ar hlt hl,hx',e]
 rcases hkn with rfl|⟨hlt,hn⟩
 ·have hsz:= @lok _ 10000000 [0,1,7,8] b155_0 (st155_0 F l) (l.length) hstep (by simp[-md,b155_0,hF])
  rw[CJ hp]
  simp[-md,p155,hF]
  rw[hsz]
  ·simp[-md,b155_0,hF]
  ·simp
  ·simp
 ·have h1:(!q (l.getD k zW))=false:=by simpa using hn
  rw[BX hlt hp h1]
  obtain⟨x,_,hx,hx',hd,_⟩:=AX l zW (j:=k) (by omega)
  rw[hd]at h1
  have h2:q x=true:=by simpa using h1
  have e:=e x
  rw[h2]at e
  simp only[AD,lent,fW]at e
  have hsz:= @lok _ 10000000 [0,1,7,8] b155_0 (st155_0 F l) (k) hstep (by simp[-md,b155_0,hF,hlt,hx',e])
  simp[-md,p155,hF]
  rw[hsz]
  ·simp[-md,b155_0,hF,hlt,hx',e]
  ·simp
  ·simp
@[simp] def st155_1 (F:Nat) (c:List T) (l:List BD) (j:Nat):St:={n:=19,m:=0,tm:=[(0,.im 3 (enc fW l)),(1,.clo F [.pim c]),(7,.sc (I6 l.length)),(8,.sc (I6 j))],ob:=[]}
theorem Oh [PKI] (F:Nat) (c:List T) (q:BD->Bool) (l:List BD) (hl:l.length<=1048576) (hF:md F=[]) (e: ∀x,sG F [.a (AD (fW x)),.pi c]=some ⟨[.v (.sc (.bool (q x)))],[],[]⟩):
  sG 155 [.v (.im 3 (enc fW l)),.c F [c]]=some ⟨[.v (.sc (I6 (FL (λj=> !q (l.getD j zW)) l.length)))],[],[]⟩:=by
 refine sK p155 ?_
 obtain⟨k,hk,hp,hkn⟩:=first (λj=>(!q (l.getD j zW))=true) l.length
 have hstep: ∀j,j<k-> ∃s',xG b155_0 (st155_1 F c l j)=some (.normal,s')/\s'.m<=10000000/\Aa 10000000 [0,1,7,8] s'=st155_1 F c l (j+1):=λj hj=>by
  have hlt:j<l.length:=by omega
  have h1:(!q (l.getD j zW))=true:=hp j hj;obtain⟨x,_,hx,hx',hd,_⟩:=AX l zW (j:=j) (by omega);rw[hd]at h1;have h2:q x=false:=by simpa using h1
  have e:=e x;rw[h2]at e;simp only[AD,lent,fW]at e;simp[-md,b155_0,hF,hlt,Ar hlt hl,hx',e]
 rcases hkn with rfl|⟨hlt,hn⟩
 ·have hsz:= @lok _ 10000000 [0,1,7,8] b155_0 (st155_1 F c l) (l.length) hstep (by simp[-md,b155_0,hF])
  rw[CJ hp]
  simp[-md,p155,hF]
  rw[hsz]
  ·simp[-md,b155_0,hF]
  ·simp
  ·simp
 ·have h1:(!q (l.getD k zW))=false:=by simpa using hn
  rw[BX hlt hp h1]
  obtain⟨x,_,hx,hx',hd,_⟩:=AX l zW (j:=k) (by omega)
  rw[hd]at h1
  have h2:q x=true:=by simpa using h1
  have e:=e x
  rw[h2]at e
  simp only[AD,lent,fW]at e
  have hsz:= @lok _ 10000000 [0,1,7,8] b155_0 (st155_1 F c l) (k) hstep (by simp[-md,b155_0,hF,hlt,hx',e])
  simp[-md,p155,hF]
  rw[hsz]
  ·simp[-md,b155_0,hF,hlt,hx',e]
  ·simp
  ·simp
@[simp] def st155_2 (F:Nat) (c d:List T) (l:List BD) (j:Nat):St:={n:=19,m:=0,tm:=[(0,.im 3 (enc fW l)),(1,.clo F [.pim c,.pim d]),(7,.sc (I6 l.length)),(8,.sc (I6 j))],ob:=[]}
theorem Og [PKI] (F:Nat) (c d:List T) (q:BD->Bool) (l:List BD) (hl:l.length<=1048576) (hF:md F=[]) (e: ∀x,sG F [.a (AD (fW x)),.pi c,.pi d]=some ⟨[.v (.sc (.bool (q x)))],[],[]⟩):
  sG 155 [.v (.im 3 (enc fW l)),.c F [c,d]]=some ⟨[.v (.sc (I6 (FL (λj=> !q (l.getD j zW)) l.length)))],[],[]⟩:=by
 refine sK p155 ?_
 obtain⟨k,hk,hp,hkn⟩:=first (λj=>(!q (l.getD j zW))=true) l.length
 have hstep: ∀j,j<k-> ∃s',xG b155_0 (st155_2 F c d l j)=some (.normal,s')/\s'.m<=10000000/\Aa 10000000 [0,1,7,8] s'=st155_2 F c d l (j+1):=λj hj=>by
  have hlt:j<l.length:=by omega
  have h1:(!q (l.getD j zW))=true:=hp j hj;obtain⟨x,_,hx,hx',hd,_⟩:=AX l zW (j:=j) (by omega);rw[hd]at h1;have h2:q x=false:=by simpa using h1
  have e:=e x;rw[h2]at e;simp only[AD,lent,fW]at e;simp[-md,b155_0,hF,hlt,Ar hlt hl,hx',e]
 rcases hkn with rfl|⟨hlt,hn⟩
 ·have hsz:= @lok _ 10000000 [0,1,7,8] b155_0 (st155_2 F c d l) (l.length) hstep (by simp[-md,b155_0,hF])
  rw[CJ hp]
  simp[-md,p155,hF]
  rw[hsz]
  ·simp[-md,b155_0,hF]
  ·simp
  ·simp
 ·have h1:(!q (l.getD k zW))=false:=by simpa using hn
  rw[BX hlt hp h1]
  obtain⟨x,_,hx,hx',hd,_⟩:=AX l zW (j:=k) (by omega)
  rw[hd]at h1
  have h2:q x=true:=by simpa using h1
  have e:=e x
  rw[h2]at e
  simp only[AD,lent,fW]at e
  have hsz:= @lok _ 10000000 [0,1,7,8] b155_0 (st155_2 F c d l) (k) hstep (by simp[-md,b155_0,hF,hlt,hx',e])
  simp[-md,p155,hF]
  rw[hsz]
  ·simp[-md,b155_0,hF,hlt,hx',e]
  ·simp
  ·simp
theorem MB [PKI] (F:Nat) (q:BD->Bool) (l:List BD) (hl:l.length<=1048576) (hF:md F=[]) (e: ∀x,sG F [.a (AD (fW x))]=some ⟨[.v (.sc (.bool (q x)))],[],[]⟩):
  sG 163 [.v (.im 3 (enc fW l)),.c F []]=some ⟨[.v (.sc (.bool (!Ac (λj=> !q (l.getD j zW)) l.length)))],[],[]⟩:=by
 refine sK p163 ?_
 have e:=Oi F q l hl hF e
 rw[<-Gj]
 simp[p163,  e]
def kpW (q:BD->Bool) (l:List BD) (j:Nat):List BD:=(l.take j).filter λx=> !q x
def dwR (q:BD->Bool) (l:List BD) (b:Nat):Nat->List (List T)
 |0=>enc fW l
 |m+1=>if q (l.getD (b+m) zW)then dwR q l b m else((dwR q l b m).set (b+m) [.sc (I6 (l.getD (b+m) zW).src),.sc (I6 (l.getD (b+m) zW).dst),.hole]).set (kpW q l (b+m)).length (fW (l.getD (b+m) zW))
theorem Sg (q:BD->Bool) (l:List BD) (b m:Nat):dwR q l b (m+1)=if q (l.getD (b+m) zW)then dwR q l b m else((dwR q l b m).set (b+m) [.sc (I6 (l.getD (b+m) zW).src),.sc (I6 (l.getD (b+m) zW).dst),.hole]).set (kpW q l (b+m)).length (fW (l.getD (b+m) zW)):=rfl
theorem N1 {q:BD->Bool} {l:List BD} {j:Nat} {x:BD} (hx:l[j]? =some x):kpW q l (j+1)=if q x then kpW q l j else kpW q l j++[x]:=by
 unfold kpW;rw[List.take_add_one,hx]
 cases h:q x<;>simp[h]
theorem Xf {q:BD->Bool} {l:List BD} {b:Nat} (hb:(kpW q l b).length<b) (h0:(enc fW l).take (kpW q l b).length=enc fW (kpW q l b)): ∀m,b+m<=l.length->(dwR q l b m).length=l.length/\(dwR q l b m).take (kpW q l (b+m)).length=enc fW (kpW q l (b+m))/\(∀i,b+m<=i->(dwR q l b m)[i]? =(enc fW l)[i]?)/\(kpW q l (b+m)).length<b+m/\ ∀i,i<l.length-> ∃z:BD,(dwR q l b m)[i]? =some (fW z)\/(dwR q l b m)[i]? =some [.sc (I6 z.src),.sc (I6 z.dst),.hole]
 |0,_=>⟨Bx _ _,h0,λi _=>rfl,hb,λi hi=>by
  obtain⟨z,_,hz,_⟩:=AX l zW hi;exact⟨z,.inl (by unfold dwR;rw[Is,hz];rfl)⟩⟩
 |m+1,hm=>by
  obtain⟨a1,a2,a3,a4,a5⟩:=Xf hb h0 m (by omega);obtain⟨x,_,hx,hx',hd,_⟩:=AX l zW (j:=b+m) (by omega);have hs:=N1 (q:=q) hx;rw[show b+(m+1)=b+m+1 by omega,hs];rw[Sg,hd]
  cases hq:q x
  ·simp only[Bool.false_eq_true,if_false];refine⟨by simp only[List.length_set];exact a1,?_,λi hi=> ?_,by simp only[List.length_append,List.length_cons,List.length_nil];omega,λi hi=> ?_⟩
   ·generalize kpW q l (b+m)=K at*;simp only[List.length_append,List.length_cons,List.length_nil,Nat.zero_add];rw[List.take_add_one,List.take_set_of_le (Nat.le_refl _),List.take_set_of_le (by omega),a2,List.getElem?_set_self (by simp only[List.length_set];omega)];simp[enc]
   ·rw[List.getElem?_set_ne (by omega),List.getElem?_set_ne (by omega)];exact a3 i (by omega)
   ·by_cases h1:i=(kpW q l (b+m)).length
    ·rw[h1];exact⟨x,.inl (List.getElem?_set_self (by simp only[List.length_set];omega))⟩
    ·rw[List.getElem?_set_ne (Ne.symm h1)];by_cases h2:i=b+m
     ·rw[h2];exact⟨x,.inr (List.getElem?_set_self (by omega))⟩
     ·rw[List.getElem?_set_ne (Ne.symm h2)];exact a5 i hi
  ·simp only[if_true];exact⟨a1,a2,λi hi=>a3 i (by omega),by omega,a5⟩
@[simp] def st151 (F:Nat) (c d:List T) (r:List (List T)) (i j:Nat):St:={n:=42,m:=1,tm:=[(0,.ref 0 []),(1,.clo F [.pim c,.pim d]),(5,.sc (I6 i)),(6,.sc (I6 j))],ob:=[(0,.arr 3 r)]}
theorem Ok [PKI] (F:Nat) (c d:List T) (q:BD->Bool) (l:List BD) (hl:l.length<=1048576) (hF:md F=[]) (e: ∀x,sG F [.a (AD (fW x)),.pi c,.pi d]=some ⟨[.v (.sc (.bool (q x)))],[],[]⟩):
  sG 151 [.v (.own 3 (enc fW l)),.c F [c,d]]=some ⟨[.v (.own 3 (enc fW (l.filter λx=> !q x)))],[none],[]⟩:=by
 refine sK p151 ?_
 have eI:=Og F c d q l hl hF e
 obtain⟨k,hk,hp,hkn⟩:=first (λj=>(!q (l.getD j zW))=true) l.length
 have hpre: ∀j,j<=k->kpW q l j=l.take j:=λj hj=>by
  unfold kpW;rw[List.filter_eq_self];intro x hx;obtain⟨i,hi,rfl⟩:=List.mem_iff_getElem.1 hx;simp at hi;have:=hp i (by omega);obtain⟨y,_,_,hy',hd,_⟩:=AX l zW (j:=i) (by omega);rw[hd]at this;rw[List.getElem_take,hy'];exact this
 have hfull:kpW q l l.length=l.filter λx=> !q x:=by unfold kpW;rw[List.take_length]
 rcases hkn with rfl|⟨hlt,hn⟩
 ·rw[CJ hp]at eI
  rw[<-hfull,hpre _ (Nat.le_refl _),List.take_length]
  simp[p151,  eI]
 ·have h1:(!q (l.getD k zW))=false:=by simpa using hn
  rw[BX hlt hp h1]at eI
  obtain⟨y,_,hy,_,hd,_⟩:=AX l zW (j:=k) hlt
  rw[hd]at h1
  have hqy:q y=true:=by simpa using h1
  have hk1:kpW q l (k+1)=l.take k:=by rw[N1 hy,hqy,hpre k (Nat.le_refl _)];rfl
  have hkl:(kpW q l (k+1)).length=k:=by rw[hk1,List.length_take];omega
  have hR:=Xf (q:=q) (l:=l) (b:=k+1) (by omega) (by rw[hkl,hk1,Ax])
  have hsz:= @lok _ 10000000 [0,1,5,6] b151_0 (λm=>st151 F c d (dwR q l (k+1) m) (kpW q l (k+1+m)).length (k+1+m)) (l.length - (k+1)) (λm hm=>by
   have hj:k+1+m<l.length:=by omega
   obtain⟨x,_,hx,hx',hxd,_⟩:=AX l zW (j:=k+1+m) hj;obtain⟨r1,r2,r3,r4,r5⟩:=hR m (by omega);obtain⟨z,hz⟩:=r5 (kpW q l (k+1+m)).length (by omega);have hinc:=Ar hj hl;have g1:(dwR q l (k+1) m)[k+1+m]? =some (fW x):=by rw[r3 _ (Nat.le_refl _),Is,hx];rfl
   have hs:=N1 (q:=q) hx;have hil2:(kpW q l (k+1+m)).length<l.length:=by omega
   have hi2:=Ar hil2 hl;have e:=e x;rw[show k+1+(m+1)=k+1+m+1 by omega,hs];rw[Sg,hxd];simp only[AD,lent,fW]at e g1;generalize dwR q l (k+1) m=R at*;generalize kpW q l (k+1+m)=K at*;generalize k+1+m=j at*;have hjr:j<R.length:=by omega
   have hrj:R[j]=[T.sc (I6 x.src),T.sc (I6 x.dst),T.sl 1 (enc fU x.bytes)]:=by rw[List.getElem?_eq_getElem hjr]at g1;exact Option.some.inj g1
   have hKj:K.length≠j:=by omega
   have hjK:j≠K.length:=by omega
   cases hqx:q x with
   |true=>
    rw[hqx]at e;simp[-md,b151_0,hF,r1,hj,hjr,hrj,hinc,e]
   |false=>
    rw[hqx]at e;have hKr:K.length<R.length:=by omega
    simp only[fW,List.getElem?_eq_getElem hKr,Option.some.injEq]at hz;rcases hz with hz|hz
    ·simp[-md,b151_0,hF,r1,hj,hjr,hrj,hinc,hi2,hil2,hKj,hjK,hKr,hz,e]
    ·simp[-md,b151_0,hF,r1,hj,hjr,hrj,hinc,hi2,hil2,hKj,hjK,hKr,hz,e]) (by
   obtain⟨r1,r2,r3,r4,_⟩:=hR (l.length - (k+1)) (by omega);rw[show k+1+(l.length - (k+1))=l.length by omega]at*;simp[-md,b151_0,r1])
  have hinc:=Ar hlt hl
  have hkne: ¬ ((k:Nat):Int)= -1:=by omega
  simp[p151,  eI,hkne,hinc]
  rw[hsz]
  ·obtain⟨r1,r2,r3,r4,_⟩:=hR (l.length - (k+1)) (by omega)
   rw[show k+1+(l.length - (k+1))=l.length by omega]at r2 r4 ⊢
   rw[<-hfull,<-r2]
   generalize dwR q l (k+1) (l.length - (k+1))=R at*
   generalize kpW q l l.length=K at*
   have r5:K.length<=l.length:=by omega
   simp[-md,b151_0,r1,r5]
  ·simp
  ·simp[-md,hkl]
   rfl
def cutJ (w:AB) (a b:Nat) (j:Nat):List AE:=if j=0 then w.nodes else if j=1 then w.nodes.set a (Cr (nd w a) b)else(w.nodes.set a (Cr (nd w a) b)).set b (Cr (nd w b) a)
@[simp] def st103 (w:AB) (N:List AE) (a b:Nat) (j:Nat):St:={n:=59,m:=5,tm:=[(0,.pb 0 0),(4,.pb 10000000 0),(5,.pb 10000001 0),(15,.ref 10000002 []),(16,.sc (I6 2)),(17,.sc (I6 j))],ob:=[(0,.box [.ref 1 [],.ref 2 [],.ref 3 [],.ref 4 [],.sc (I6 w.gen)]),(1,.arr 16 (enc fN N)),(2,.arr 3 (enc fW w.net)),(3,.arr 2 (enc fR w.log)),(4,.arr 1 (enc fI w.safe)),(10000000,.box [.sc (I6 a)]),(10000001,.box [.sc (I6 b)]),(10000002,.arr 2 [[.sc (I6 a),.sc (I6 b)],[.sc (I6 b),.sc (I6 a)]])]}
theorem RL [PKI] (w:AB) (a b:Nat) (h3:w.nodes.length=3) (ha:a<3) (hb:b<3) (hab:a≠b) (hn:w.net.length<=1048576) (hx: ∀x∈w.nodes,x.conn.length=3/\x.copies.length=3/\x.sync.length=3):
  sG 103 [.pm (AA (fWo w)),.v (.sc (I6 a)),.v (.sc (I6 b))]=some ⟨[],[],[AA (fWo (CQ w a b))]⟩:=by
 refine sK p103 ?_
 obtain⟨x,y1,hx1,hx',hxd,hxm⟩:=AX w.nodes zN (j:=a) (by omega)
 obtain⟨y,y2,hy1,hy',hyd,hym⟩:=AX w.nodes zN (j:=b) (by omega)
 obtain⟨x1,x2,x3⟩:=hx x hxm
 obtain⟨z1,z2,z3⟩:=hx y hym
 have hxa:nd w a=x:=hxd
 have hyb:nd w b=y:=hyd
 have hba:b≠a:=hab.symm
 have q1:b<x.conn.length:=by omega
 have q2:a<y.conn.length:=by omega
 have q3:b<x.copies.length:=by omega
 have q4:a<y.copies.length:=by omega
 obtain⟨c1,q5,_,c1',_,_⟩:=Ah x.sync (j:=b) (by omega)
 obtain⟨c2,q6,_,c2',_,_⟩:=Ah y.sync (j:=a) (by omega)
 have wr1:IntKind.wrap .i64 1=1:=rfl
 have wr2:IntKind.wrap .i64 2=2:=rfl
 have e:=Ok 152 [.sc (I6 a)] [.sc (I6 b)] (λx=> !CW a b x) w.net hn rfl (λx=>ev_cut1 a b x)
 simp only[Bool.not_not]at e
 have hlp:= @lok _ 10000000 [0,4,5,15,16,17] b103_0 (λj=>st103 w (cutJ w a b j) a b j) 2 (λj hj=>by
  unfold cutJ Cr;rw[hxa,hyb];rcases(by omega:j=0\/j=1)with rfl|rfl
  ·simp (maxSteps:=9999999) [b103_0,  y1,hx',q1,q3,q5,c1',wr1]
  ·simp (maxSteps:=9999999) [b103_0,  y2,hy',q2,q4,q6,c2',hab,hba,wr2,List.getElem_set]) (by simp[b103_0])
 simp (maxSteps:=9999999) [p103,  CV]
 rw[hlp]
 ·simp (maxSteps:=9999999) [b103_0,  e,CQ,cutJ]
 ·simp
 ·simp[cutJ]
end Go.Proofs.YtghgecpicnfgpaaGreat.Ow
