/- Functions evaluated on the small machine: Worlds copied, wires read, what is safe: what the reference makes, Wires read, what is safe: what the reference makes, What is told safe: what the reference makes of a world. -/
import Derived.Test.YtbolhfegdocpeaaGreatEv18
import Derived.Test.YtbolhfegdocpeaaGreatEv15
import Derived.Test.YtbolhfegdocpeaaGreatEv9
namespace Go.Proofs.YtbolhfegdocpeaaGreat.Ow
open Go
set_option linter.unusedVariables false
set_option linter.unusedSimpArgs false
set_option maxHeartbeats 8000000
variable {PK:Nat->List Arg->Option Res}
@[simp] def zwb:Obj:= .box [.nil 16,.nil 3,.nil 2,.nil 1,.sc (.int .i64 0)]
@[simp] def st178_1 (w:AB) (j:Nat):St:=
 if j=0 then {n:=69,m:=0,tm:=[(1,.pb 10000000 0),(2,.pb 10000001 0),(3,.pb 10000002 0),(4,.sc (.int .i64 j))],ob:=[(10000000,GO w),(10000001,zwb),(10000002,.box [.nil 16,.nil 3,.ref 10000003 [],.ref 10000004 [],.sc (.int .i64 w.gen)]),(10000003,.arr 2 (enc fR w.log)),(10000004,.arr 1 (enc fI w.safe))]}
 else {n:=69,m:=0,tm:=[(1,.pb 10000000 0),(2,.pb 10000001 0),(3,.pb 10000002 0),(4,.sc (.int .i64 j))],ob:=[(10000000,GO w),(10000001,zwb),(10000002,.box [.ref 10000003 [],.nil 3,.ref 10000004 [],.ref 10000005 [],.sc (.int .i64 w.gen)]),(10000003,.arr 16 (enc fN (w.nodes.take j))),(10000004,.arr 2 (enc fR w.log)),(10000005,.arr 1 (enc fI w.safe))]}
@[simp] def st178_0 (w:AB) (j:Nat):St:=
 if j=0 then {n:=69,m:=0,tm:=[(1,.pb 10000200 0),(2,.pb 10000201 0),(3,.pb 10000202 0),(5,.sc (.int .i64 j))],ob:=[(10000200,GO w),(10000201,zwb),(10000202,.box [.ref 10000203 [],.nil 3,.ref 10000204 [],.ref 10000205 [],.sc (.int .i64 w.gen)]),(10000203,.arr 16 (enc fN w.nodes)),(10000204,.arr 2 (enc fR w.log)),(10000205,.arr 1 (enc fI w.safe))]}
 else {n:=69,m:=0,tm:=[(1,.pb 10000200 0),(2,.pb 10000201 0),(3,.pb 10000202 0),(5,.sc (.int .i64 j))],ob:=[(10000200,GO w),(10000201,zwb),(10000202,.box [.ref 10000203 [],.ref 10000204 [],.ref 10000205 [],.ref 10000206 [],.sc (.int .i64 w.gen)]),(10000203,.arr 16 (enc fN w.nodes)),(10000204,.arr 3 (enc fW (w.net.take j))),(10000205,.arr 2 (enc fR w.log)),(10000206,.arr 1 (enc fI w.safe))]}
theorem Tz (w:AB) (hw:wS w): ∀ (s:St),s.m<=10000000->Ai 10000000 [1,2,3,4] s=st178_1 w 0->Ag G PK md 10000000 [1,2,3,4] b178_1 s=An (AH G PK md) (Ag G PK md) md b178_1 (st178_1 w w.nodes.length):=
 AL (G:=G) (PK:=PK) (md:=md) (o:=10000000) (live:=[1,2,3,4]) (c:=b178_1) (st178_1 w) w.nodes.length (fun j hj=>by
  obtain⟨x,y1,hx,hx',_,hxm⟩:=Ay w.nodes zN hj;have hinc:=A2 hj hw.nodes;have hwn:=hw.nodes;have e:=Bo (PK:=PK) x (hw.node x hxm);simp only[AJ,lent,fN,AD,AX]at e;have g5:(j+1)*248<=35184372088832:=by omega
  have hmin:min j w.nodes.length=j:=by omega
  have hen:enc fN (List.take (j+1) w.nodes)=enc fN (List.take j w.nodes)++[fN x]:=by rw[EP hx];simp[enc]
  by_cases h0:j=0
  ·subst h0;simp at hx' hinc hen;simp (config:={maxSteps:=10000000}) [b178_1,md,hj,hx',e,hinc,AF];simpa using hen.symm
  ·simp at hen;simp (config:={maxSteps:=10000000}) [b178_1,md,hj,hx',e,g5,hmin,hinc,h0,hen,AF]) (by
  by_cases h0:w.nodes.length=0
  ·simp[b178_1,h0]
  ·simp[b178_1,h0])
theorem T0 (w:AB) (hw:wS w): ∀ (s:St),s.m<=10000200->Ai 10000200 [1,2,3,5] s=st178_0 w 0->Ag G PK md 10000200 [1,2,3,5] b178_0 s=An (AH G PK md) (Ag G PK md) md b178_0 (st178_0 w w.net.length):=
 AL (G:=G) (PK:=PK) (md:=md) (o:=10000200) (live:=[1,2,3,5]) (c:=b178_0) (st178_0 w) w.net.length (fun j hj=>by
  obtain⟨x,y1,hx,hx',_,hxm⟩:=Ay w.net zW hj;have hinc:=A2 hj hw.net;have hwn:=hw.net;have hxl:=(hw.wire x hxm).1;have g3:x.bytes.length<=35184372088832:=by omega
  have g5:(j+1)*40<=35184372088832:=by omega
  have hmin:min j w.net.length=j:=by omega
  have hen:enc fW (List.take (j+1) w.net)=enc fW (List.take j w.net)++[fW x]:=by rw[EP hx];simp[enc]
  by_cases h0:j=0
  ·subst h0;simp at hx' hinc hen;simp (config:={maxSteps:=10000000}) [b178_0,md,hj,hx',g3,hinc,AF];simpa using hen.symm
  ·simp at hen;simp (config:={maxSteps:=10000000}) [b178_0,md,hj,hx',g3,g5,hmin,hinc,h0,hen,AF]) (by
  by_cases h0:w.net.length=0
  ·simp[b178_0,h0]
  ·simp[b178_0,h0])
theorem Q6 (w:AB) (hw:wS w) (h3:w.nodes.length≠0):AH G PK md 178 [.a (AJ (fWo w))]=some ⟨[.a (AD (fWo w))],[],[]⟩:=by
 refine AA (pf:=p178) rfl (by simp[p178]) ?_;have h1:=Tz (PK:=PK) w hw;have h0:=T0 (PK:=PK) w hw;have a1:=hw.log;have a2:=hw.safe;have g1:w.log.length<=2199023255552:=by omega
 have g2:w.log.length*16<=35184372088832:=by omega
 have g3:w.safe.length<=4398046511104:=by omega
 have g4:w.safe.length*8<=35184372088832:=by omega
 have fl:BA (enc fR w.log)=true:=FX (fun _=>rfl) _;simp (config:={maxSteps:=10000000}) [p178,md,g1,g2,g3,g4,fl,AF];rw[h1]
 ·simp[b178_1,h3];rw[h0]
  ·by_cases hn:w.net.length=0
   ·have:w.net=[]:=List.eq_nil_of_length_eq_zero hn;simp[b178_0,this]
   ·simp[b178_0,hn]
  ·simp
  ·simp
 ·simp
 ·simp
def KS (a b:Int):Bool:=decide (a=2)||decide (b=2)
theorem Jp (a b:Int):AH G PK md 214 [.v (.sc (.int .i64 a)),.v (.sc (.int .i64 b))]=some ⟨[.v (.sc (.bool (KS a b)))],[],[]⟩:=by
 refine AA (pf:=p214) rfl (by simp[p214]) ?_;unfold KS;by_cases h:a=2
 ·simp[p214,md,h]
 ·simp[p214,md,h]
  try rfl
def LP (x:DC):Option BI:=
 if KS x.src x.dst then(match Hy x.bytes with
  |some [m]=>some m
  |_=>none)
 else(match Hh x.bytes 0 with
  |some (m,n)=>if n=x.bytes.length then some m else none
  |none=>none)
theorem Q2 (x:DC) (hb:byt x.bytes) (hb1:x.bytes.length<=1000000):AH G PK md 199 [.a (AJ (fW x))]=some ⟨[.a (AD (fMs ((LP x).getD zMs))),.v (.sc (.bool (LP x).isSome))],[],[]⟩:=by
 refine AA (pf:=p199) rfl (by simp[p199]) ?_;have e1:=Jp (PK:=PK) x.src x.dst;have e2:=L4 (PK:=PK) x.bytes hb;have e3:=Hn (PK:=PK) x.bytes 0 hb (Nat.zero_le _) hb1;unfold LP
 cases hf:KS x.src x.dst
 ·rw[hf]at e1;simp only[Bool.false_eq_true,if_false]
  cases hm:Hh x.bytes 0 with
  |none=>
   rw[hm]at e3;simp only[Option.map_none,Option.getD_none,Option.isSome_none,AD,AX,fMs,zMs]at e3;simp at e3;simp[p199,md,e1,e3,zMs]
  |some q=>
   obtain⟨m,n⟩:=q;rw[hm]at e3;simp only[Option.map_some,Option.getD_some,Option.isSome_some,AD,AX,fMs]at e3;simp at e3;by_cases hn:n=x.bytes.length
   ·have hn':(n:Int)=x.bytes.length:=by omega
    simp[p199,md,e1,e3,eq_true hn,eq_true hn',zMs]
   ·have hn': ¬ (n:Int)=x.bytes.length:=by omega
    simp[p199,md,e1,e3,hn,hn',zMs]
 ·rw[hf]at e1;simp only[if_true]
  cases hu:Hy x.bytes with
  |none=>
   rw[hu]at e2;simp only[Option.getD_none,Option.isSome_none,BK]at e2;simp[p199,md,e1,e2,zMs]
  |some l=>
   rw[hu]at e2;simp only[Option.getD_some,Option.isSome_some]at e2;rcases l with _|⟨m,_|⟨m2,l⟩⟩
   ·simp at e2;simp[p199,md,e1,e2,zMs]
   ·simp at e2;simp[p199,md,e1,e2,zMs]
   ·have h1: ¬ ((l.length:Int)+1+1=1):=by omega
    simp at e2;simp[p199,md,e1,e2,h1,zMs]
def DG (s:List Int) (x:Int):List Int:=if x∈s then s else ins s x
def EI (s l:List Int):List Int:=l.foldl DG s
theorem JN (s:List Int) (x:Int):(DG s x).length=if x∈s then s.length else s.length+1:=by
 unfold DG;split
 ·rfl
 ·exact Rp s x
theorem GQ (l:List Int): ∀s:List Int,s.length<=(EI s l).length/\(EI s l).length<=s.length+l.length:=by
 induction l with
 |nil=>intro s;simp[EI]
 |cons x l ih=>
  intro s;have h1:=ih (DG s x);have h2:=JN s x;have h3:EI s (x::l)=EI (DG s x) l:=rfl;rw[h3];simp only[List.length_cons];split at h2<;>omega
theorem M9 (l:List Int): ∀s:List Int,(EI s l).length=s.length->EI s l=s:=by
 induction l with
 |nil=>intro s _;rfl
 |cons x l ih=>
  intro s h;have h1:=GQ l (DG s x);have h2:=JN s x;have h3:EI s (x::l)=EI (DG s x) l:=rfl;rw[h3]at h ⊢;by_cases hx:x∈s
  ·have h4:DG s x=s:=by unfold DG;rw[if_pos hx]
   rw[h4]at h ⊢;exact ih s h
  ·rw[if_neg hx]at h2;omega
@[simp] def obS (N:List (List T)) (w:AB) (s:List Int) (o:Nat):List (Nat×Obj):=
 if s.length=w.safe.length then [(0,.arr 1 (enc fI s)),(o,.box [.al 0 16 N,.al 1 3 (enc fW w.net),.al 2 2 (enc fR w.log),.ref 0 [],.sc (.int .i64 w.gen)]),(o+1,.box [.nil 16,.nil 3,.nil 2,.nil 1,.sc (.int .i64 0)])]
 else [(0,.arr 1 (enc fI w.safe)),(o,.box [.al 0 16 N,.al 1 3 (enc fW w.net),.al 2 2 (enc fR w.log),.ref (o+2) [],.sc (.int .i64 w.gen)]),(o+1,.box [.nil 16,.nil 3,.nil 2,.nil 1,.sc (.int .i64 0)]),(o+2,.arr 1 (enc fI s))]
@[simp] def st202_1 (N:List (List T)) (w:AB) (l s:List Int) (j:Nat):St:={n:=61,m:=1,tm:=[(1,.im 1 (enc fI l)),(2,.pb 10000000 0),(4,.pb 10000001 0),(5,.sc (.int .i64 j))],ob:=obS N w s 10000000}
@[simp] def st202_0 (N:List (List T)) (w:AB) (l s:List Int) (j k:Nat):St:={n:=61,m:=1,tm:=[(1,.im 1 (enc fI l)),(2,.pb 10000200 0),(4,.pb 10000201 0),(5,.sc (.int .i64 j)),(6,.sc (.int .i64 k))],ob:=obS N w s 10000200}
theorem Tv (N:List (List T)) (w:AB) (l s:List Int) (j:Nat) (x:Int) (hx:l[j]? =some x) (hs:s.length<=1048576): ∃k,k<=s.length/\s.take k++[x]++s.drop k=ins s x/\ ∀ (t:St),t.m<=10000200->Ai 10000200 [1,2,4,5,6] t=st202_0 N w l s j 0->Ag G PK md 10000200 [1,2,4,5,6] b202_0 t=some (.exit 2,{st202_0 N w l s j k with tm:=(st202_0 N w l s j k).tm++[(37,.sc (.bool false))]}):=by
 obtain⟨_,hx'⟩:=Ba hx;have hjl:j<l.length:=(Ba hx).1;obtain⟨k,hk,hp,hkn⟩:=first (fun i=>s.getD i 0<x) s.length;have hend:k<s.length-> ¬s.getD k 0<x:=fun h=>by
  rcases hkn with rfl|⟨_,h2⟩
  ·omega
  ·exact h2
 have hex:An (AH G PK md) (Ag G PK md) md b202_0 (st202_0 N w l s j k)=some (.exit 2,{st202_0 N w l s j k with tm:=(st202_0 N w l s j k).tm++[(37,.sc (.bool false))]}):=by
  by_cases hkl:k<s.length
  ·have h2:=hend hkl;rw[List.getD_eq_getElem?_getD,List.getElem?_eq_getElem hkl]at h2;simp only[Option.getD_some]at h2;by_cases hm:s.length=w.safe.length
   ·simp[b202_0,md,hkl,h2,hjl,hx',eq_true hm]
   ·simp[b202_0,md,hkl,h2,hjl,hx',hm]
  ·by_cases hm:s.length=w.safe.length
   ·simp[b202_0,md,hkl,hjl,hx',eq_true hm]
   ·simp[b202_0,md,hkl,hjl,hx',hm]
 refine⟨k,hk,UB hk hp hkn,fun t ht hc=> ?_⟩;rw[←hex];refine AL (G:=G) (PK:=PK) (md:=md) (o:=10000200) (live:=[1,2,4,5,6]) (c:=b202_0) (fun k=>st202_0 N w l s j k) k (fun i hi=> ?_) ⟨_,_,hex,by simp⟩ t ht hc;have hi2:i<s.length:=by omega
 have hinc:=A2 hi2 hs;have hlt:=hp i hi;rw[List.getD_eq_getElem?_getD,List.getElem?_eq_getElem hi2]at hlt;simp only[Option.getD_some]at hlt;by_cases hm:s.length=w.safe.length
 ·simp[b202_0,md,hi2,hinc,hlt,hjl,hx',eq_true hm]
 ·simp[b202_0,md,hi2,hinc,hlt,hjl,hx',hm]
theorem Tu (N:List (List T)) (w:AB) (l:List Int) (hl:l.length<=1000) (hs:w.safe.length<=1000000): ∀ (t:St),t.m<=10000000->Ai 10000000 [1,2,4,5] t=st202_1 N w l w.safe 0->Ag G PK md 10000000 [1,2,4,5] b202_1 t=An (AH G PK md) (Ag G PK md) md b202_1 (st202_1 N w l (EI w.safe l) l.length):=by
 have hf:l.take l.length=l:=List.take_length;have h:=AL (G:=G) (PK:=PK) (md:=md) (o:=10000000) (live:=[1,2,4,5]) (c:=b202_1) (fun j=>st202_1 N w l (EI w.safe (l.take j)) j) l.length (fun j hj=>by
  obtain⟨x,hx⟩:=AE hj;obtain⟨_,hx'⟩:=Ba hx;have hinc:=A2 hj (by omega);have hbd:=GQ (l.take j) w.safe;have htl:(l.take j).length<=l.length:=by rw[List.length_take];omega
  have hnx:EI w.safe (l.take (j+1))=DG (EI w.safe (l.take j)) x:=Dp DG w.safe l hx;have hsame:=M9 (l.take j) w.safe;simp only[hnx];generalize EI w.safe (l.take j)=s at hbd hsame ⊢;have e:=Cg (PK:=PK) s x (by omega);have hfl:=JN s x;by_cases hm:x∈s
  ·have h4:DG s x=s:=by unfold DG;rw[if_pos hm]
   rw[h4];by_cases hsl:s.length=w.safe.length
   ·simp[b202_1,md,hj,hx',e,hm,hinc,eq_true hsl]
   ·simp[b202_1,md,hj,hx',e,hm,hinc,hsl]
  ·have h4:DG s x=ins s x:=by unfold DG;rw[if_neg hm]
   rw[if_neg hm,h4]at hfl;rw[h4];obtain⟨k,hk,hins,hlp⟩:=Tv (PK:=PK) N w l s j x hx (by omega);have hne: ¬ (ins s x).length=w.safe.length:=by omega
   have g3:k<=4398046511104:=by omega
   have g4:k*8<=35184372088832:=by omega
   have g5:(k+1)*8<=35184372088832:=by omega
   have g6:(k+1+(s.length - k))*8<=35184372088832:=by omega
   have hft:BA (List.take k (enc fI s))=true:=FT (Ly _);have hfd:BA (List.drop k (enc fI s))=true:=HR (Ly _);have hta:List.take s.length (enc fI s)=enc fI s:=List.take_of_length_le (by rw[Da];omega);have hen:enc fI (ins s x)=List.take k (enc fI s)++[T.sc (.int .i64 x)]::List.drop k (enc fI s):=by rw[←hins];simp[enc,List.map_take,List.map_drop]
   by_cases hsl:s.length=w.safe.length
   ·simp[b202_1,md,hj,hx',e,hm,eq_true hsl];rw[hlp]
    ·simp[hj,hx',hk,g3,g4,g5,g6,hft,hfd,hta,hinc,hne,hen,eq_true hsl];rw[hsame hsl]
    ·simp
    ·simp[eq_true hsl]
   ·simp[b202_1,md,hj,hx',e,hm,hsl];rw[hlp]
    ·simp[hj,hx',hk,g3,g4,g5,g6,hft,hfd,hta,hinc,hne,hen,hsl]
    ·simp
    ·simp[hsl]) (by
  generalize EI w.safe (l.take l.length)=s;by_cases hsl:s.length=w.safe.length
  ·simp[b202_1,eq_true hsl]
  ·simp[b202_1,hsl])
 simp only[hf]at h;exact h
def Eo (w:AB) (l:List Int):AB:={w with safe:=EI w.safe l}
theorem Gy (N:List (List T)) (w:AB) (l:List Int) (hl:l.length<=1000) (hs:w.safe.length<=1000000): ∃fin,(fin=[none]/\(EI w.safe l).length=w.safe.length\/fin=[some (enc fI w.safe)]/\(EI w.safe l).length≠w.safe.length)/\AH G PK md 202 [.a [.al 0 16 N,.al 1 3 (enc fW w.net),.al 2 2 (enc fR w.log),.own 1 (enc fI w.safe),.sc (.int .i64 w.gen)],.v (.im 1 (enc fI l))]=some ⟨[.a [.al 0 16 N,.al 1 3 (enc fW w.net),.al 2 2 (enc fR w.log),.own 1 (enc fI (EI w.safe l)),.sc (.int .i64 w.gen)]],fin,[]⟩:=by
 have h1:=Tu (PK:=PK) N w l hl hs;by_cases hsl:(EI w.safe l).length=w.safe.length
 ·refine⟨[none],.inl ⟨rfl,hsl⟩,AA (pf:=p202) rfl (by simp[p202]) ?_⟩;have hse:=M9 l w.safe hsl;rw[hse]at h1 ⊢;simp[p202,md];rw[h1]
  ·simp[b202_1]
  ·simp
  ·simp
 ·refine⟨[some (enc fI w.safe)],.inr ⟨rfl,hsl⟩,AA (pf:=p202) rfl (by simp[p202]) ?_⟩;simp[p202,md];rw[h1]
  ·simp[b202_1,hsl]
  ·simp
  ·simp
theorem MG (w:AB) (l:List Int) (hl:l.length<=1000) (hs:w.safe.length<=1000000): ∃fin,(fin=[none]\/fin=[some (enc fI w.safe)])/\AH G PK md 202 [.a [.al 0 16 (enc fN w.nodes),.al 1 3 (enc fW w.net),.al 2 2 (enc fR w.log),.own 1 (enc fI w.safe),.sc (.int .i64 w.gen)],.v (.im 1 (enc fI l))]=some ⟨[.a [.al 0 16 (enc fN w.nodes),.al 1 3 (enc fW w.net),.al 2 2 (enc fR w.log),.own 1 (enc fI (EI w.safe l)),.sc (.int .i64 w.gen)]],fin,[]⟩:=
 (Gy (enc fN w.nodes) w l hl hs).imp fun _ h=>⟨h.1.imp And.left And.left,h.2⟩
end Go.Proofs.YtbolhfegdocpeaaGreat.Ow
