/- Functions evaluated on the small machine: Messages as bytes: what the reference makes, Writing and copying: what the reference makes of a node, and what Mu out. -/
import Derived.Test.YtbolhfegdocpeaaGreatEv12
import Derived.Test.YtbolhfegdocpeaaGreatEv14
namespace Go.Proofs.YtbolhfegdocpeaaGreat.Ow
open Go
set_option linter.unusedVariables false
set_option linter.unusedSimpArgs false
set_option maxHeartbeats 8000000
variable {PK:Nat->List Arg->Option Res}
def N1 (a:Int×Int) (x:Int):Int×Int:=((a.1+x)%65521,(a.2+(a.1+x)%65521)%65521)
def JO (b:List Int):Int×Int:=b.foldl N1 (1,0)
def O4 (b:List Int):Int:=(JO b).2*65536+(JO b).1
theorem RW (b:List Int):0<=(JO b).1/\(JO b).1<65521/\0<=(JO b).2/\(JO b).2<65521:=by
 unfold JO
 suffices h: ∀ (b:List Int) (a:Int×Int),(0<=a.1/\a.1<65521/\0<=a.2/\a.2<65521)->0<=(b.foldl N1 a).1/\(b.foldl N1 a).1<65521/\0<=(b.foldl N1 a).2/\(b.foldl N1 a).2<65521 from h b (1,0) (by decide)
 intro b
 induction b with
 |nil=>intro a h;exact h
 |cons x b ih=>
  intro a h;refine ih _ ?_;unfold N1;simp only;omega
@[simp] def st154 (b:List Int) (a:Int×Int) (j:Nat):St:={n:=28,m:=0,tm:=[(0,.im 1 (enc fU b)),(3,.sc (.int .i64 a.1)),(4,.sc (.int .i64 a.2)),(5,.sc (.int .i64 j))],ob:=[]}
theorem Mx (b:List Int) (hb:byt b):AH G PK md 154 [.v (.im 1 (enc fU b))]=some ⟨[.v (.sc (.int .i64 (O4 b)))],[],[]⟩:=by
 refine AA (pf:=p154) rfl (by simp[p154]) ?_;have hs:=AL (G:=G) (PK:=PK) (md:=md) (o:=10000000) (live:=[0,3,4,5]) (c:=b154_0) (fun j=>st154 b (JO (b.take j)) j) b.length (fun j hj=>by
  obtain⟨x,hx⟩:=AE hj;obtain⟨_,hx'⟩:=Ba hx;have hxb:=hb.2 x (List.mem_of_getElem? hx);have hinc:=A2 hj hb.1;have hbd:=RW (b.take j);have hsu:JO (b.take (j+1))=N1 (JO (b.take j)) x:=Dp N1 (1,0) b hx;simp only[hsu];generalize JO (b.take j)=a at hbd ⊢;obtain⟨u,v⟩:=a;simp only at hbd;have w0:IntKind.wrap .i64 x=x:=AC (by omega) (by omega);have w1:IntKind.wrap .i64 (u+x)=u+x:=AC (by omega) (by omega);have t1:(u+x).tmod 65521=(u+x)%65521:=Int.tmod_eq_emod_of_nonneg (by omega);obtain⟨q,hq⟩: ∃q,q=(u+x)%65521:=⟨_,rfl⟩;have hq1:0<=q/\q<65521:=by omega
  have w2:IntKind.wrap .i64 q=q:=AC (by omega) (by omega);have w3:IntKind.wrap .i64 (v+q)=v+q:=AC (by omega) (by omega);have t2:(v+q).tmod 65521=(v+q)%65521:=Int.tmod_eq_emod_of_nonneg (by omega);obtain⟨r,hr⟩: ∃r,r=(v+q)%65521:=⟨_,rfl⟩;have w4:IntKind.wrap .i64 r=r:=AC (by omega) (by omega);simp[b154_0,md,hj,hx',hinc,w0,w1,t1,←hq,w2,w3,t2,←hr,w4,N1]) (by simp[b154_0])
 have hf:b.take b.length=b:=List.take_length;have hbd:=RW b;unfold O4;generalize hg:JO b=a at*;obtain⟨u,v⟩:=a;simp only at hbd;have w1:IntKind.wrap .i64 (v*65536)=v*65536:=AC (by omega) (by omega);have w2:IntKind.wrap .i64 (v*65536+u)=v*65536+u:=AC (by omega) (by omega);simp[p154,md];rw[hs]
 ·simp[b154_0,hf,hg,w1,w2]
 ·simp
 ·simp[JO]
def body (m:BI):List Int:=pns [m.kind,m.cell,m.val,m.who,m.gens.length]++pns m.gens
def BE (m:BI):List Int:=if EX m then Al (body m).length++body m++EA (O4 (body m))else []
structure MsB (m:BI):Prop where
 k:1<=m.kind/\m.kind<=5
 c:0<=m.cell/\m.cell<=7
 v:0<=m.val/\m.val<=200
 w:0<=m.who/\m.who<=2
 g:m.gens.length<=12
 gb: ∀x∈m.gens,1<=x/\x<=100000
 g0:m.kind≠5->m.gens=[]
theorem Tp {m:BI} (h:EX m=true):MsB m:=by
 have hg:=IC h;unfold EX at h;split at h
 ·rename_i h5;simp only[Bool.and_eq_true,decide_eq_true_iff]at h;have hv:=Ab.1 h.1.1.2;exact⟨by omega,by omega,hv,by omega,hg,gn_bd h.1.1.1,fun hk=>absurd h5 hk⟩
 ·split at h
  ·rename_i h5 hk;simp only[Bool.and_eq_true,decide_eq_true_iff,Bool.or_eq_true]at h;have hn:m.gens=[]:=List.eq_nil_of_length_eq_zero h.1.1.1;have hc:=Ab.1 h.1.1.2;have hv:=Ab.1 h.1.2;have hb:bit (decide (m.kind=4)||decide (m.kind=2)) 1<=1:=by unfold bit;split<;>omega
   have hw:0<=m.who/\m.who<=2:=by
    rcases h.2 with h2|h2
    ·exact Ab.1 h2.2
    ·omega
   exact⟨by omega,hc,by omega,hw,hg,(by rw[hn];intro x hx;cases hx),fun _=>hn⟩
  ·cases h
theorem MsB.head {m:BI} (h:MsB m):inU [m.kind,m.cell,m.val,m.who,(m.gens.length:Int)]:=fun x hx=>by
 have h1:=h.k;have h2:=h.c;have h3:=h.v;have h4:=h.w;have h5:=h.g;simp only[List.mem_cons,List.not_mem_nil,or_false]at hx;rcases hx with rfl|rfl|rfl|rfl|rfl<;>omega
theorem MsB.tail {m:BI} (h:MsB m):inU m.gens:=fun x hx=>by have:=h.gb x hx;omega
theorem QC {m:BI} (h:MsB m):(body m).length<=85:=by
 unfold body;have h1:=DK _ h.head;have h2:=DK _ h.tail;have:=h.g;rw[List.length_append];simp only[List.length_cons,List.length_nil]at h1;omega
@[simp] def st151_1 (m:BI) (l:List Int) (j:Nat):St:={n:=49,m:=0,tm:=[(1,.pb 10000000 0),(3,.ref 10000001 []),(4,.ref 10000002 []),(5,.sc (.int .i64 j))],ob:=[(10000000,.box [.sc (.int .i64 m.kind),.sc (.int .i64 m.cell),.sc (.int .i64 m.val),.sc (.int .i64 m.who),.im 1 (enc fI m.gens)]),(10000001,.arr 1 (enc fU (pns (l.take j)))),(10000002,.arr 1 (enc fI l))]}
@[simp] def st151_0 (m:BI) (o:List Int) (j:Nat):St:={n:=49,m:=0,tm:=[(1,.pb 10000200 0),(3,.ref 10000201 []),(6,.sc (.int .i64 j))],ob:=[(10000200,.box [.sc (.int .i64 m.kind),.sc (.int .i64 m.cell),.sc (.int .i64 m.val),.sc (.int .i64 m.who),.im 1 (enc fI m.gens)]),(10000201,.arr 1 (enc fU (o++pns (m.gens.take j))))]}
theorem Sq (m:BI) (hm:MsB m):AH G PK md 151 [.a (AJ (fMs m))]=some ⟨[.v (.own 1 (enc fU (body m)))],[],[]⟩:=by
 refine AA (pf:=p151) rfl (by simp[p151]) ?_;obtain⟨l,hl⟩: ∃l,l=[m.kind,m.cell,m.val,m.who,(m.gens.length:Int)]:=⟨_,rfl⟩;have hll:l.length=5:=by rw[hl];rfl
 have hlu:inU l:=by rw[hl];exact hm.head
 have h1:=AL (G:=G) (PK:=PK) (md:=md) (o:=10000000) (live:=[1,3,4,5]) (c:=b151_1) (fun j=>st151_1 m l j) l.length (fun j hj=>by
  obtain⟨x,_,hx,hx',hd⟩:=AT l hj;obtain⟨u0,u1⟩:=hlu x (List.mem_of_getElem? hx);have e:=BL (PK:=PK) x u0 u1;have hpt:=GX l hx;have hlen:=DK (l.take j) (Gm hlu j);have hlj:(l.take j).length=j:=by rw[List.length_take];omega
  have hap:enc fU (pns (l.take j))++enc fU (Al x)=enc fU (pns (l.take (j+1))):=by rw[hpt,Ac]
  have hp5:=A4 u0 u1;have hb:(pns (l.take j)).length+(Al x).length<=35184372088832:=by omega
  have hinc:=A2 hj (by omega);simp[b151_1,md,hj,hx',e,hap,hb,hinc]) (by simp[b151_1])
 have hgu:=hm.tail;have hpl:=DK l hlu;have h0:=AL (G:=G) (PK:=PK) (md:=md) (o:=10000200) (live:=[1,3,6]) (c:=b151_0) (fun j=>st151_0 m (pns l) j) m.gens.length (fun j hj=>by
  obtain⟨x,_,hx,hx',hd⟩:=AT m.gens hj;obtain⟨u0,u1⟩:=hgu x (List.mem_of_getElem? hx);have e:=BL (PK:=PK) x u0 u1;have hpt:=GX m.gens hx;have hlen:=DK (m.gens.take j) (Gm hgu j);have hlj:(m.gens.take j).length=j:=by rw[List.length_take];omega
  have:=hm.g;have hap:enc fU (pns l++pns (m.gens.take j))++enc fU (Al x)=enc fU (pns l++pns (m.gens.take (j+1))):=by rw[hpt,Ac,List.append_assoc]
  have hp5:=A4 u0 u1;have hinc:=A2 hj (by omega);generalize hq:pns l++pns (m.gens.take j)=q at hap ⊢;have hql:q.length<=100:=by rw[←hq,List.length_append];omega
  have hb:q.length+(Al x).length<=35184372088832:=by omega
  simp[b151_0,md,hj,hx',e,hap,hb,hinc,hq]) (by simp[b151_0])
 have hz:pns []=[]:=rfl;have hf:m.gens.take m.gens.length=m.gens:=List.take_length;have hf1:l.take l.length=l:=List.take_length;unfold body;rw[←hl];simp[p151,md];rw[h1]
 ·simp[b151_1];rw[h0]
  ·simp[b151_0]
  ·simp
  ·simp[hz,hf1]
 ·simp
 ·simp[hz,hl]
theorem DM (m:BI):(BE m).length<=94:=by
 unfold BE;split
 ·rename_i h;have h1:=QC (Tp h);have h2:=A4 (n:=(body m).length) (by omega) (by omega);rw[List.length_append,List.length_append,Pj];omega
 ·simp
theorem four_by (n:Int):by8 (EA n):=fun x hx=>by
 simp only[EA,List.mem_cons,List.not_mem_nil,or_false]at hx;omega
theorem R7 (m:BI):by8 (body m):=Bk (Qi _) (Qi _)
theorem Eu (m:BI):by8 (BE m):=by
 unfold BE;split
 ·exact Bk (Bk (FH _) (R7 m)) (four_by _)
 ·intro x hx;cases hx
theorem Co (m:BI) (hm:m.gens.length<=1048576):AH G PK md 117 [.a (AJ (fMs m))]=some ⟨[.v (.own 1 (enc fU (BE m)))],[],[]⟩:=by
 refine AA (pf:=p117) rfl (by simp[p117]) ?_;have e1:=Hm (PK:=PK) m hm;simp only[AJ,lent,fMs]at e1;unfold BE
 cases h:EX m
 ·simp[p117,md,e1,h]
 have hb:=Tp h;have bl:=QC hb;have e2:=Sq (PK:=PK) m hb;have e3:=BL (PK:=PK) (body m).length (by omega) (by omega);have e4:=Mx (PK:=PK) (body m) ⟨by omega,R7 m⟩;have e5:=Pt (PK:=PK) (O4 (body m));have pl:=A4 (n:=(body m).length) (by omega) (by omega);simp only[AJ,lent,fMs]at e2;generalize body m=b at*;generalize hp:Al (b.length:Int)=p at*;generalize hf:EA (O4 b)=f at*;have hfl:f.length=4:=by rw[←hf];rfl
 have g1:p.length+b.length<=35184372088832:=by omega
 have g2:p.length+b.length+f.length<=35184372088832:=by omega
 have g3:p.length+(b.length+f.length)<=35184372088832:=by omega
 simp[p117,md,e1,e2,e3,e4,e5,h,g1,g2,g3];simp[enc]
def ES (n:AG) (cell val:Int):AG:=if n.conn.getD (GI n.id).toNat false then {E8 n n.id cell val with wait:=clr n.wait val++[val]} else E8 n n.id cell val
def DE (n:AG) (cell val:Int):AG×List Ci:=if Am n&&n.prime&&inB cell 0 7&&decide (1<=val)&&Am (ES n cell val)then(ES n cell val,tos (ES n cell val) n.id ⟨1,cell,val,0,[]⟩)else(n,[])
theorem PU {n:AG} (h:NOk n) (hp:n.prime=true): ∃k:Nat,k<2/\GI n.id=(k:Int):=by
 have h3:=h.prime hp;have h4:n.id=0\/n.id=1:=by have:=h.id0;have:=h.id2;omega
 rcases h4 with h4|h4
 ·exact⟨1,by omega,by rw[h4];rfl⟩
 ·exact⟨0,by omega,by rw[h4];rfl⟩
theorem M7 {n:AG} {cell val:Int} (hn:nB n) (hbl: ∀x∈n.mt.bits,x.length<=800) (hw:n.wait.length<=900):nB (ES n cell val):=by
 have h:=Nu (src:=n.id) (cell:=cell) (val:=val) hn hbl;unfold ES;split
 ·exact⟨h.image,h.gens,h.bits,h.bit,h.sl,h.conn,h.sync,h.syn,h.copies,by have:=F0 n.wait val;simp only[List.length_append,List.length_cons,List.length_nil];omega⟩
 ·exact h
theorem Hl (n:AG) (cell val:Int) (hn:nB n) (hbl: ∀x∈n.mt.bits,x.length<=800) (hw:n.wait.length<=900):AH G PK md 205 [.a (AJ (fN n)),.v (.sc (.int .i64 cell)),.v (.sc (.int .i64 val))]=some ⟨[.a (AD (fN (DE n cell val).1)),.v (.own 7 (enc fP (DE n cell val).2))],[],[]⟩:=by
 refine AA (pf:=p205) rfl (by simp[p205]) ?_;have e1:=AZ (PK:=PK) n hn.nS;have e3:=Aj (PK:=PK) cell 0 7;have e4:=Bo (PK:=PK) n hn.nS;simp only[AJ,lent,fN,AD,AX]at e1 e4;unfold DE
 cases h1:Am n
 ·simp[p205,md,e1,e4,h1]
 have nn:=A3 h1
 cases h2:n.prime
 ·rw[h2]at e1 e4;simp[p205,md,e1,e4,h1,h2]
 cases h3:inB cell 0 7
 ·rw[h2]at e1 e4;simp[p205,md,e1,e3,e4,h1,h2,h3]
 by_cases h4:1<=val
 case neg=>
  rw[h2]at e1 e4;simp[p205,md,e1,e3,e4,h1,h2,h3,h4,show val<1 by omega]
 obtain⟨k,k2,hk⟩:=PU nn h2;obtain⟨c,q1,hc,hc',hcd⟩:=A1 n.conn (j:=k) (by have:=hn.conn;omega);have hB:=M7 (cell:=cell) (val:=val) hn hbl hw;have e5:=MB (PK:=PK) n n.id cell val hn hbl;have e6:=Cp (PK:=PK) n.id;have e7:=G1 (PK:=PK) n.wait val (by omega);have e8:=AZ (PK:=PK) (ES n cell val) hB.nS;have e9:=Py (PK:=PK) (ES n cell val) n.id ⟨1,cell,val,0,[]⟩ hB.conn rfl;have hcl:=F0 n.wait val;have haw:(E8 n n.id cell val).wait=n.wait:=rfl;rw[hk]at e6;simp only[AJ,lent,fN,AD,AX,pmsg]at e5 e8 e9;unfold ES at*;rw[hk]at e8 e9 ⊢;simp only[Int.toNat_natCast,hcd]at e8 e9 ⊢;rw[h2]at e1 e4 e5;generalize E8 n n.id cell val=q at*;have hvl: ¬val<1:=by omega
 have g1:(clr n.wait val).length+1<=4398046511104:=by omega
 have g2:((clr n.wait val).length+1)*8<=35184372088832:=by omega
 have hen:enc fI (clr n.wait val)++[[T.sc (.int .i64 val)]]=enc fI (clr n.wait val++[val]):=by simp[enc]
 cases c
 ·simp only[Bool.false_eq_true,if_false]at e8 e9 ⊢
  cases h5:Am q
  ·rw[h5]at e8;simp (config:={maxSteps:=10000000}) [p205,md,e1,e3,e4,e5,e6,e8,h1,h2,h3,h4,hvl,q1,hc',AF]
  ·rw[h5]at e8;simp (config:={maxSteps:=10000000}) [p205,md,e1,e3,e4,e5,e6,e8,e9,h1,h2,h3,h4,hvl,q1,hc',AF]
 ·simp only[if_true]at e8 e9 ⊢;rw[haw]at*
  cases h5:Am {q with wait:=clr n.wait val++[val]}
  ·rw[h5]at e8;simp (config:={maxSteps:=10000000}) [p205,md,e1,e3,e4,e5,e6,e7,e8,haw,h1,h2,h3,h4,hvl,q1,hc',g1,g2,hen,AF]
  ·rw[h5]at e8;simp (config:={maxSteps:=10000000}) [p205,md,e1,e3,e4,e5,e6,e7,e8,e9,haw,h1,h2,h3,h4,hvl,q1,hc',g1,g2,hen,AF]
def R6 (n:AG) (to:Int):Av:={n.mt with held:=n.mt.held&&decide (to≠GI n.id)}
def JC (n:AG) (to:Int):AG:=Bb {n with copies:=n.copies.set to.toNat false} (R6 n to)
def FZ (n:AG) (to:Int):AG×List Ci:=
 if Am n&&inB to 0 2&&n.copies.getD to.toNat false then
  (if 0<(n.sync.getD to.toNat []).length then
   ({n with sync:=n.sync.set to.toNat (clr (n.sync.getD to.toNat []) ((n.sync.getD to.toNat []).getD 0 0))},[⟨n.id,to,⟨4,(n.sync.getD to.toNat []).getD 0 0,n.image.getD ((n.sync.getD to.toNat []).getD 0 0).toNat 0,0,[]⟩⟩])
  else if Am (JC n to)then(JC n to,[⟨n.id,to,⟨5,0,n.mt.last,0,n.mt.gens⟩⟩])else(n,[]))
 else(n,[])
theorem OZ (n:AG) (to:Int) (hn:nB n):AH G PK md 231 [.a (AJ (fN n)),.v (.sc (.int .i64 to))]=some ⟨[.a (AD (fN (FZ n to).1)),.v (.own 7 (enc fP (FZ n to).2))],[],[]⟩:=by
 refine AA (pf:=p231) rfl (by simp[p231]) ?_;have e1:=AZ (PK:=PK) n hn.nS;have e2:=Bo (PK:=PK) n hn.nS;have e3:=Aj (PK:=PK) to 0 2;simp only[AJ,lent,fN,AD,AX]at e1 e2;unfold FZ
 cases h1:Am n
 ·simp[p231,md,e1,e2,h1]
 have nn:=A3 h1
 cases h3:inB to 0 2
 ·simp[p231,md,e1,e2,e3,h1,h3]
 have r3:=Ab.1 h3;obtain⟨k,rfl⟩: ∃k:Nat,to=(k:Int):=⟨to.toNat,by omega⟩;obtain⟨c,q1,hc,hc',hcd⟩:=A1 n.copies (j:=k) (by have:=hn.copies;omega);simp only[Int.toNat_natCast,hcd]
 cases c
 ·simp[p231,md,e1,e2,e3,h1,h3,q1,hc']
 obtain⟨l,q2,hl,hl',hld,hlm⟩:=Ax n.sync (j:=k) (by have:=hn.sync;omega);rw[hld];by_cases h4:0<l.length
 ·obtain⟨v,q3,hv,hv',hvd⟩:=AT l h4;have hm:=mk_bd (nn.syn8 l hlm) v (by rw[←hv'];exact List.getElem_mem _);have hm7:v<=7:=by
   have:=nn.syn8 l hlm;unfold C5 at this;have:=Ar this h4;unfold mkP at this;rw[hvd]at this;simp only[Bool.and_eq_true]at this;exact(Ab.1 this.1).2
  rw[hvd];obtain⟨j,rfl⟩: ∃j:Nat,v=(j:Int):=⟨v.toNat,by omega⟩;have h8:=NW nn.img;obtain⟨u,q4,hu,hu',hud⟩:=AT n.image (j:=j) (by omega);simp only[Int.toNat_natCast,hud];have e5:=G1 (PK:=PK) l (j:Int) (by have:=E4 (nn.syn8 l hlm);omega);have s1:=Bc fII n.sync k (clr l (j:Int));simp at s1;simp (config:={maxSteps:=10000000}) [p231,md,e1,e2,e3,e5,h1,h3,h4,q1,hc',q2,hl',q3,hv',q4,hu',s1,AF]
 ·have e4:=B8 (PK:=PK) n.mt hn.mt;have e5:=Cq (PK:=PK) {n with copies:=n.copies.set k false} (R6 n (k:Int)) hn.sl hn.mt;have hB:nB (JC n (k:Int)):=⟨hn.image,hn.gens,hn.bits,hn.bit,CO hn.sl _,hn.conn,hn.sync,hn.syn,by unfold JC Bb;simp only[List.length_set];exact hn.copies,hn.wait⟩;have e6:=AZ (PK:=PK) (JC n (k:Int)) hB.nS;have e7:=Cp (PK:=PK) n.id;have s1:=Bc fL n.copies k false;simp at s1;rw[show Bb {n with copies:=n.copies.set k false} (R6 n (k:Int))=JC n (k:Int)from rfl]at e5;generalize JC n (k:Int)=q at*;unfold R6 at e5;simp only[AJ,lent,fN,fM,AD,AX,kpA]at e4 e5 e6;have gl:=nn.gens12;have g1:n.mt.gens.length<=4398046511104:=by omega
  have g2:n.mt.gens.length*8<=35184372088832:=by omega
  cases hh:n.mt.held
  ·rw[hh]at e1 e2 e4 e5;simp only[Bool.false_and]at e5
   cases h5:Am q
   ·rw[h5]at e6;simp (config:={maxSteps:=10000000}) [p231,md,e1,e2,e3,e4,e5,e6,h1,h3,h4,q1,hc',q2,hl',s1,hh,AF]
   ·rw[h5]at e6;simp (config:={maxSteps:=10000000}) [p231,md,e1,e2,e3,e4,e5,e6,h1,h3,h4,q1,hc',q2,hl',s1,hh,g1,g2,AF]
  ·rw[hh]at e1 e2 e4 e5;simp only[Bool.true_and]at e5;by_cases hm:(k:Int)=GI n.id
   ·have hd:decide ((k:Int)≠GI n.id)=false:=by simp[hm]
    have hbn:((k:Int) != GI n.id)=false:=by simp[hm]
    rw[hd]at e5
    cases h5:Am q
    ·rw[h5]at e6;simp (config:={maxSteps:=10000000}) [p231,md,e1,e2,e3,e4,e5,e6,e7,h1,h3,h4,q1,hc',q2,hl',s1,hh,eq_true hm,hbn,AF]
    ·rw[h5]at e6;simp (config:={maxSteps:=10000000}) [p231,md,e1,e2,e3,e4,e5,e6,e7,h1,h3,h4,q1,hc',q2,hl',s1,hh,eq_true hm,hbn,g1,g2,AF]
   ·have hd:decide ((k:Int)≠GI n.id)=true:=by simp[hm]
    have hbn:((k:Int) != GI n.id)=true:=by simp[hm]
    rw[hd]at e5
    cases h5:Am q
    ·rw[h5]at e6;simp (config:={maxSteps:=10000000}) [p231,md,e1,e2,e3,e4,e5,e6,e7,h1,h3,h4,q1,hc',q2,hl',s1,hh,hm,hbn,AF]
    ·rw[h5]at e6;simp (config:={maxSteps:=10000000}) [p231,md,e1,e2,e3,e4,e5,e6,e7,h1,h3,h4,q1,hc',q2,hl',s1,hh,hm,hbn,g1,g2,AF]
end Go.Proofs.YtbolhfegdocpeaaGreat.Ow
