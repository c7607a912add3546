/- Functions evaluated on the small machine: A node's copy, what is kept of a meta, falling and rising, generations: the program's own way, Writing into a node, and what is known of another one: the program's own way, Who copies to whom: the program's own way. -/
import Derived.Test.YtghgecpicnfgpaaGreatEv20
import Derived.Test.YtghgecpicnfgpaaGreatEv10
namespace Go.Proofs.YtghgecpicnfgpaaGreat.Ow
open Go
set_option linter.unusedVariables false
set_option linter.unusedSimpArgs false
set_option maxHeartbeats 16000000
set_option maxRecDepth 100000
@[simp] def st98 (ll:List LI) (j:Nat):St:={n:=20,m:=0,tm:=[(3,.ref 10000000 []),(7,.im 1 (enc fII ll)),(8,.sc (I6 ll.length)),(9,.sc (I6 j))],ob:=[(10000000,.arr 1 (enc fII (ll.take j)))]}
theorem LG [PKI] (hK:Cm PK) (ll:List LI) (hl:lls ll):sG 98 [.v (.im 1 (enc fII ll))]=some ⟨[.v (.own 1 (enc fII ll))],[],[]⟩:=by
 refine sK p98 ?_;obtain⟨hb,hbb⟩:=hl;have hs:= @lok _ 10000000 [3,7,8,9] b98_0 (st98 ll) ll.length (λj hj=>by
  obtain⟨x,y1,hx,hx',_,hxm⟩:=Ah ll hj;have hinc:=Ar hj hb;have e:=hK.ci x (hbb x hxm);have g5:(j+1)*24<=35184372088832:=by omega
  have hmin:min j ll.length=j:=by omega
  have hsn:=DJ hx;have hen:enc fII (List.take (j+1) ll)=enc fII (List.take j ll)++[[T.sl 1 (enc fI x)]]:=by rw[hsn];simp[enc]
  simp[b98_0,  hj,hx',hinc,e,g5,hmin,hen]) (by simp[b98_0])
 simp[p98];rw[hs]
 ·simp[b98_0]
 ·simp
 ·simp
theorem Bp [PKI] (hK:Cm PK) (m:Ay) (hm:mtS m):sG 95 [.a (AD (fM m))]=some ⟨[.a (AA (fM m))],[],[]⟩:=by
 refine sK p95 ?_;have e1:=hK.ci m.gens hm.1;have e2:=LG hK m.bits hm.2;simp[p95,  e1,e2]
theorem BH [PKI] (hK:Cm PK) (n:AE) (hn:nS n):sG 57 [.a (AD (fN n))]=some ⟨[.a (AA (fN n))],[],[]⟩:=by
 refine sK p57 ?_;have e1:=hK.ci n.image hn.image;have e2:=Bp hK n.mt hn.mt;have e3:=LF hK.cu n.sl hn.sl.1.1 hn.sl.2.1;have e4:=hK.cb n.conn hn.conn;have e5:=LG hK n.sync hn.sync;have e6:=hK.cb n.copies hn.copies;have e7:=hK.ci n.wait hn.wait;simp only[AD,lent,fM,fSl,AA,AJ]at e2 e3;simp[p57,  e1,e2,e3,e4,e5,e6,e7]
theorem M4 [PKI] (hK:Cm PK) (g:LI) (n:Int) (hg:g.length<=1000000):sG 204 [.v (.im 1 (enc fI g)),.v (.sc (I6 n))]=some ⟨[.v (.own 1 (enc fI (CE g n)))],[],[]⟩:=by
 refine sK p204 ?_;have g3:(1+g.length)*8<=35184372088832:=by omega
 have e:=Ff ((n::g).take 12) (by rw[List.length_take];omega);have e2:=hK.ci g (by omega);unfold CE;have hen:enc fI ((n::g).take 12)=([.sc (I6 n)]::enc fI g).take 12:=by rw[<-Ax];rfl
 rw[hen]at e;by_cases hl:11<g.length
 ·have h1:(12:Int)<(g.length:Int)+1:=by omega
  have h5:11<=g.length:=by omega
  have h6:12<=g.length+1:=by omega
  simp at e
  cases hk:Dj ((n::g).take 12)<;>simp at hk<;>simp[p204,  g3,h1,h5,h6,e,e2,hk]
  all_goals (try rw[Ax])
 ·have h1: ¬ (12:Int)<(g.length:Int)+1:=by omega
  have h5:g.take 11=g:=List.take_of_length_le (by omega);have h6:(enc fI g).take 11=enc fI g:=List.take_of_length_le (by rw[Bx];omega);have h7:(enc fI g).take g.length=enc fI g:=List.take_of_length_le (by rw[Bx];omega);have h8:(0:Int)<=(g.length:Int)+1:=by omega
  simp[h6]at e
  cases hk:Dj ((n::g).take 12)<;>simp[h5]at hk<;>simp[p204,  g3,h1,h8,e,e2,hk,h5,h6,h7]
theorem PW [PKI] (a b:LI) (ha:0<a.length) (hb:0<b.length) (la:a.length<=1048576) (lb:b.length<=1048576):sG 193 [.v (.im 1 (enc fI a)),.v (.im 1 (enc fI b))]=some ⟨[.v (.sc (I6 (Fz a b)))],[],[]⟩:=by
 refine sK p193 ?_;obtain⟨x,_,hx,hx',hxd⟩:=AK a (j:=0) ha;obtain⟨y,_,hy,hy',hyd⟩:=AK b (j:=0) hb;have e1:=BQ a y la;have e2:=BQ b x lb;have a0: ¬ (a.length:Int)=0:=by omega
 have b0: ¬ (b.length:Int)=0:=by omega
 have a1:(0:Int)<a.length:=by omega
 have b1:(0:Int)<b.length:=by omega
 have a2: ¬a=[]:=by intro h;rw[h]at ha;cases ha
 have b2: ¬b=[]:=by intro h;rw[h]at hb;cases hb
 unfold Fz;rw[hxd,hyd];by_cases h1:x=y
 ·subst h1;simp[p193,  ha,hb,a0,b0,a1,b1,a2,b2,hx',hy',e1,e2]
 ·by_cases h2:y∈a
  ·simp[p193,  ha,hb,a0,b0,a1,b1,a2,b2,hx',hy',e1,e2,h1,h2]
  ·by_cases h3:x∈b
   ·simp[p193,  ha,hb,a0,b0,a1,b1,a2,b2,hx',hy',e1,e2,h1,h2,h3]
   ·simp[p193,  ha,hb,a0,b0,a1,b1,a2,b2,hx',hy',e1,e2,h1,h2,h3]
def kpF (n:AE):List (Option (List (List T))):=[none,some (enc fI n.mt.gens),some (enc fII n.mt.bits),some (enc fU n.sl.a),some (enc fU n.sl.b),none,none,none,none]
theorem F4 [PKI] (hK:Cm PK) (n:AE) (m:Ay) (hn:nS n) (hm:mtS m):sG 197 [.a (AA (fN n)),.a (AD (fM m))]=some ⟨[.a (AA (fN (A7 n m))),.v (.sc (.bool (AL (A7 n m))))],kpF n,[]⟩:=by
 refine sK p197 ?_;have e1:=Bp hK m hm;have e2:=HW hK.cu n.sl m hn.sl hm;have e3:=Ak (A7 n m) ⟨hn.image,hm,CZ hn.sl m,hn.conn,hn.sync,hn.copies,hn.wait⟩;generalize AL (A7 n m)=ok at*;unfold A7 at*;generalize Br n.sl m=sp at*;simp only[AD,lent,fN,fM,fSl,AA,AJ]at e1 e2 e3;simp[p197,  e1,e2,e3,kpF]
def UW (n:AE) (m:Ay):AE:=if AL (A7 n m)&&AL n then A7 n m else n
theorem RC [PKI] (hK:Cm PK) (n:AE) (m:Ay) (hn:nS n) (hm:mtS m):sG 272 [.a (AD (fN n)),.a (AD (fM m))]=some ⟨[.a (AA (fN (UW n m)))],[],[]⟩:=by
 refine sK p272 ?_;have e1:=BH hK n hn;have e2:=F4 hK n m hn hm;have e3:=Ak n hn;unfold UW;generalize A7 n m=k at*;simp only[AD,lent,fN,fM,AA,AJ,kpF]at e1 e2 e3
 cases h1:AL k
 ·rw[h1]at e2;simp[p272,  e1,e2,e3]
 ·rw[h1]at e2
  cases h2:AL n
  ·rw[h2]at e3;simp[p272,  e1,e2,e3]
  ·rw[h2]at e3;simp[p272,  e1,e2,e3]
theorem RF [PKI] (hK:Cm PK) (n:AE) (hn:nS n):sG 154 [.a (AD (fN n))]=some ⟨[.a (AA (fN (H6 n)))],[],[]⟩:=by
 refine sK p154 ?_;have e1:=BH hK n hn;have e2:=Ak n hn;simp only[AD,lent,fN,AA,AJ]at e1 e2;unfold H6 QL
 cases h:AL n
 ·rw[h]at e2;simp[p154,  e1,e2]
 ·rw[h]at e2;simp[p154,  e1,e2,List.replicate]
theorem RA [PKI] (hK:Cm PK) (n:AE) (hn:nS n):sG 105 [.a (AD (fN n))]=some ⟨[.a (AA (fN (KW n)))],[],[]⟩:=by
 refine sK p105 ?_;have e1:=BH hK n hn;have e2:=Ak n hn;have e3:=HX n.sl hn.sl;simp only[AD,lent,fN,fSl,fM,AA,AJ]at e1 e2 e3;unfold KW
 cases h:AL n
 ·rw[h]at e2;simp[p105,  e1,e2]
 ·rw[h]at e2;generalize Af n.sl=q at*
  cases hu:n.up<;>rw[hu]at e1 e2<;>simp[p105,  e1,e2,e3,hu]
def D9 (n:AE) (src cell val last:Int):AE:=A7 (DB n src cell val) {(DB n src cell val).mt with last:=last}
def Lw (n:AE):List (Option (List (List T))):=[some (enc fI n.image),some (enc fI n.mt.gens),some (enc fII n.mt.bits),some (enc fU n.sl.a),some (enc fU n.sl.b),none,none,none,none]
@[simp] def st231 (n : AE) (img : LI) (src cell last : Int) (bits : List LI) (j : Nat) : St := { n := 71, m := 9, tm := [(1, .sc (I6 src)), (2, .sc (I6 cell)), (5, .pb 10000000 0), (10, .pb 10000001 0), (12, .pb 10000002 0), (27, .sc (I6 3)), (28, .sc (I6 j))], ob := [(0, .arr 1 (enc fI n.image)), (1, .arr 1 (enc fI n.mt.gens)), (2, .arr 1 (enc fII n.mt.bits)), (3, .arr 1 (enc fU n.sl.a)), (4, .arr 1 (enc fU n.sl.b)), (5, .arr 1 (enc fL n.conn)), (6, .arr 1 (enc fII n.sync)), (7, .arr 1 (enc fL n.copies)), (8, .arr 1 (enc fI n.wait)),
  (10000000, .box [.sc (I6 n.id), .sc (.bool n.up), .sc (.bool n.prime), .ref 10000003 [], .ref 1 [], .ref 2 [], .sc (.bool n.mt.fine), .sc (.bool n.mt.old), .sc (.bool n.mt.held), .sc (I6 n.mt.last), .ref 3 [], .ref 4 [], .ref 5 [], .ref 6 [], .ref 7 [], .ref 8 []]), (10000001, zbox), (10000002, .box [.ref 10000004 [], .ref 10000005 [], .sc (.bool n.mt.fine), .sc (.bool n.mt.old), .sc (.bool n.mt.held), .sc (I6 last)]), (10000003, .arr 1 (enc fI img)), (10000004, .arr 1 (enc fI n.mt.gens)), (10000005, .arr 1 (enc fII bits))] }
theorem OI [PKI] (hK:Cm PK) (n:AE) (src cell val last:Int) (hn:nB n) (hbl: ∀x∈n.mt.bits,x.length<=800):sG 231 [.a (AA (fN n)),.v (.sc (I6 src)),.v (.sc (I6 cell)),.v (.sc (I6 val)),.v (.sc (I6 last))]=some ⟨[.a (AA (fN (D9 n src cell val last))),.v (.sc (.bool (AL (D9 n src cell val last))))],Lw n,[]⟩:=by
 refine sK p231 ?_;have hb:=hn.bits;have e1:=Se hK.ci n.image cell val (by have:=hn.image;omega);have e2:=Bp hK n.mt hn.mt;obtain⟨b1,b2⟩:=G0 (src:=src) (cell:=cell) hb hbl;have e3:=F4 hK {(DB n src cell val)with mt:=n.mt} {(DB n src cell val).mt with last:=last} ⟨by have:=Le n.image cell val;have:=hn.image;unfold DB;simp only;omega,hn.mt,hn.nS.sl,hn.nS.conn,hn.nS.sync,hn.nS.copies,hn.nS.wait⟩ ⟨by have:=hn.gens;unfold DB;simp only;omega,by unfold DB;simp only[b1];omega,λx hx=>by have:=b2 x hx;omega⟩;have hk:A7 {(DB n src cell val)with mt:=n.mt} {(DB n src cell val).mt with last:=last}=D9 n src cell val last:=rfl;rw[hk]at e3;simp only[AD,lent,fM,fN,AA,AJ,kpF]at e1 e2 e3;have hs:= @lok _ 10000000 [1,2,5,10,12,27,28] b231_0 (λj=>st231 n (FC n.image cell val) src cell last (upd (B8 n.id src cell) n.mt.bits j) j) 3 (λj hj=>by
  obtain⟨x,y1,hx,hx',_,hxm⟩:=Ah n.mt.bits (j:=j) (by omega);have hinc:=Ar hj (by omega);have hxl:=hbl x hxm;have hg:=QW (B8 n.id src cell) hx;have hst:=QV (B8 n.id src cell) hx;have hul:=M7 (B8 n.id src cell) n.mt.bits j;simp only[<-hst];generalize upd (B8 n.id src cell) n.mt.bits j=B at*;have hjB:j<B.length:=by omega
  have hgB:B[j]=x:=by simpa[hjB]using hg
  have c1:=GI hK x cell (by omega);have c2:=LD hK x cell (by omega);have s1:=A3 fII B j (B8 n.id src cell j x);have hj3:(j:Int)<3:=by omega
  unfold B8 at*;by_cases h1:(j:Int)=src
  ·rw[if_pos h1]at s1 ⊢;simp at s1;have h1b:((j:Int) != src)=false:=by simp[h1]
   by_cases h2:(j:Int)=n.id
   ·have h2b:((j:Int) != n.id)=false:=by simp[h2]
    simp[b231_0,  hj3,eq_true h1,h1b,h2b,eq_true h2,hjB,hgB,hinc,c1,s1]
   ·have h2b:((j:Int) != n.id)=true:=by simp[h2]
    simp[b231_0,  hj3,eq_true h1,h1b,h2b,h2,hjB,hgB,hinc,c1,s1]
  rw[if_neg h1]at s1 ⊢;have h1b:((j:Int) != src)=true:=by simp[h1]
  by_cases h2:(j:Int)=n.id
  ·rw[if_pos h2];have h2b:((j:Int) != n.id)=false:=by simp[h2]
   have hss:B.set j x=B:=by rw[<-hgB];exact List.set_getElem_self hjB
   rw[hss];simp[b231_0,  hj3,h1,h1b,h2b,eq_true h2,hjB,hgB,hinc]
  ·rw[if_neg h2]at s1 ⊢;have h2b:((j:Int) != n.id)=true:=by simp[h2]
   simp at s1;simp[b231_0,  hj3,h1,h2,h1b,h2b,hjB,hgB,hinc,c2,s1]) (by simp[b231_0])
 have hz:=NU (B8 n.id src cell) n.mt.bits;have ha:=UF (B8 n.id src cell) n.mt.bits;rw[hb]at ha;generalize D9 n src cell val last=r at*;unfold DB at e3;simp[p231,  e1,e2,hb];rw[hs]
 ·simp[b231_0,ha,  e3,Lw]
 ·simp
 ·simp[hz]
def Dp (n:AE) (src cell val:Int):AE×Bool:=if AL n&&inB cell 0 7&&AL (BO n src cell val)then(BO n src cell val,true)else(n,false)
theorem Oe [PKI] (hK:Cm PK) (n:AE) (src cell val:Int) (hn:nB n) (hbl: ∀x∈n.mt.bits,x.length<=800):sG 188 [.a (AD (fN n)),.v (.sc (I6 src)),.v (.sc (I6 cell)),.v (.sc (I6 val))]=some ⟨[.a (AA (fN (Dp n src cell val).1)),.v (.sc (.bool (Dp n src cell val).2))],[],[]⟩:=by
 refine sK p188 ?_;have e1:=BH hK n hn.nS;have e2:=Ak n hn.nS;have e3:=Cd cell;have e4:=OI hK n src cell val val hn hbl;rw[show D9 n src cell val val=BO n src cell val from rfl]at e4;unfold Dp;generalize BO n src cell val=r at*;simp only[AD,lent,fN,AA,AJ,Lw]at e1 e2 e4
 cases h0:AL n
 ·rw[h0]at e2;simp[p188,  e1,e2]
 rw[h0]at e2
 cases h1:inB cell 0 7
 ·rw[h1]at e3;simp[p188,  e1,e2,e3]
 rw[h1]at e3
 cases h2:AL r
 ·rw[h2]at e4;simp[p188,  e1,e2,e3,e4]
 ·rw[h2]at e4;simp[p188,  e1,e2,e3,e4]
theorem JO [PKI] (hK:Cm PK) (n:AE) (who cell val:Int) (hn:nB n):sG 242 [.a (AD (fN n)),.v (.sc (I6 who)),.v (.sc (I6 cell)),.v (.sc (I6 val))]=some ⟨[.a (AA (fN (CG n who cell val)))],[],[]⟩:=by
 refine sK p242 ?_;have e0:=BH hK n hn.nS;have e1:=Ak n hn.nS;have e2:=DU who;have e3:=Cd cell;have e4:=Bp hK n.mt hn.mt;obtain⟨k1,k2,k3⟩:=Lr (who:=who) (cell:=cell) hn;have e5:=RC hK n (CR n who cell) hn.nS ⟨by omega,by omega,λx hx=>by have:=k3 x hx;omega⟩;unfold CG
 cases h0:AL n
 ·simp only[AD,lent,fN,fM,AA,AJ]at e0 e1;simp[p242,  e0,e1,h0]
 have hk1:UW n (CR n who cell)=if AL (A7 n (CR n who cell))then A7 n (CR n who cell)else n:=by
  unfold UW;rw[h0];simp
 rw[hk1]at e5;simp only[AD,lent,fN,fM,AA,AJ]at e0 e1 e4 e5
 cases h1:inB who 0 2
 ·simp[p242,  e0,e1,e2,h0,h1]
 cases h2:inB cell 0 7
 ·simp[p242,  e0,e1,e2,e3,h0,h1,h2]
 have r1:=AP.1 h1;have r2:=AP.1 h2;obtain⟨i,rfl⟩: ∃i:Nat,who=(i:Int):=⟨who.toNat,by omega⟩;obtain⟨k,rfl⟩: ∃k:Nat,cell=(k:Int):=⟨cell.toNat,by omega⟩;have h8:=Il (Ai h0).img;obtain⟨v,y1,hv,hv',hvd⟩:=AK n.image (j:=k) (by omega);obtain⟨b,y2,hb,hb',hbd,hbm⟩:=Ah n.mt.bits (j:=i) (by have:=hn.bits;omega);have hbl:=hn.bit b hbm;have c1:=GI hK b k (by omega);have s1:=A3 fII n.mt.bits i (clr b k);simp at s1;have hm:CR n (i:Int) (k:Int)={n.mt with bits:=n.mt.bits.set i (clr b k)}:=by
  unfold CR;simp only[Int.toNat_natCast,hbd]
 simp only[Int.toNat_natCast,hvd];by_cases h3:v=val
 ·have h3b:(v != val)=false:=by simp[h3]
  generalize hq:A7 n (CR n (i:Int) (k:Int))=r at e5 ⊢;rw[hm]at e5;simp only at e5
  cases h4:AL r<;>rw[h4]at e5<;>simp only[if_true,if_false,Bool.false_eq_true]at e5<;>simp[p242,  e0,e1,e2,e3,e4,h0,h1,h2,y1,y2,hv',hb',h3,h3b,c1,s1,e5,h4]
 ·have h3b:(v != val)=true:=by simp[h3]
  simp[p242,  e0,e1,e2,e3,h0,h1,h2,y1,y2,hv',h3,h3b]
@[simp] def st196 (ab:LI) (out:LI) (j:Nat):St:={n:=23,m:=0,tm:=[(5,.ref 10000000 []),(12,.ref 10000001 []),(13,.sc (I6 ab.length)),(14,.sc (I6 j))],ob:=[(10000000,.arr 1 (enc fI out)),(10000001,.arr 1 (enc fI ab))]}
@[simp] def st236_1 (ll:List LI) (v j:Nat):St:={n:=36,m:=0,tm:=[(0,.im 1 (enc fII ll)),(3,.sc (I6 v)),(9,.im 1 (enc fII ll)),(10,.sc (I6 ll.length)),(11,.sc (I6 j))],ob:=[]}
@[simp] def st236_0 (ll:List LI) (out:LI) (j:Nat):St:={n:=36,m:=0,tm:=[(6,.ref 10000200 []),(25,.im 1 (enc fII ll)),(26,.sc (I6 ll.length)),(27,.sc (I6 j))],ob:=[(10000200,.arr 1 (enc fI out))]}
theorem Xc [PKI] (n:Nat) (hn:n<=1048576):sG 270 [.v (.nil 1),.v (.sc (I6 n))]=some ⟨[.v (.own 1 [])],[],[]⟩:=by
 refine sK p270 ?_;have h0: ¬ (n:Int)<0:=by omega
 have hw0:IntKind.wrap .i64 0=0:=rfl;have hw:IntKind.wrap .i64 (n:Int)=n:=AC (by omega) (by omega);rcases Nat.eq_zero_or_pos n with rfl|hp
 ·simp[p270,  hw0]
 ·have g1:n<=4398046511104:=by omega
  have g1':n*8<=35184372088832:=by omega
  have hp2:(0:Int)<n:=by omega
  simp[p270,  h0,hw0,hw,hp,hp2,g1,g1']
theorem Tw [PKI] (ll:List LI) (hl:ll.length<=1048576) (hs:Df (ll.map List.length)<=1048576):sG 236 [.v (.im 1 (enc fII ll))]=some ⟨[.v (.own 1 (enc fI ll.flatten))],[],[]⟩:=by
 refine sK p236 ?_;have hs1:= @lok _ 10000000 [0,3,9,10,11] b236_1 (λj=>st236_1 ll (Df ((ll.map List.length).take j)) j) (ll.length) (λj hj=>by
  obtain⟨x,y1,hx,hx',_,hxm⟩:=Ah ll hj;have hinc:=Ar hj hl;have hst:=IY (ll.map List.length) (j:=j) (x:=x.length) (by simp[hx]);have hle:=M9 (ll.map List.length) (j+1);simp only[hst];generalize Df ((ll.map List.length).take j)=v at hst ⊢;have hw:IntKind.wrap .i64 ((v:Int)+x.length)=((v+x.length:Nat):Int):=by rw[AC (by omega) (by omega)];rfl
  obtain⟨q,hq⟩: ∃q,q=v+x.length:=⟨_,rfl⟩;rw[<-hq]at hw ⊢;have hn: ¬ (q:Int)<0:=by omega
  simp[b236_1,  hj,hx',hinc,hw,hn]) (by simp[b236_1])
 have hs0:= @lok _ 10000200 [6,25,26,27] b236_0 (λj=>st236_0 ll ((ll.take j).flatten) j) (ll.length) (λj hj=>by
  obtain⟨x,y1,hx,hx',_,hxm⟩:=Ah ll hj;have hinc:=Ar hj hl;have hst:=IY (ll.map List.length) (j:=j) (x:=x.length) (by simp[hx]);have hle:=M9 (ll.map List.length) (j+1);have hfl:(ll.take j).flatten.length=Df ((ll.map List.length).take j):=by rw[OC,List.map_take]
  have hsuc:(ll.take (j+1)).flatten=(ll.take j).flatten++x:=by rw[List.take_add_one,hx];simp
  simp only[hsuc];generalize (ll.take j).flatten=out at hfl ⊢;have g1:(out.length+x.length)*8<=35184372088832:=by omega
  simp[b236_0,  hj,hx',hinc,g1,AU]) (by simp[b236_0])
 have hfull:Df ((ll.map List.length).take ll.length)=Df (ll.map List.length):=by rw[List.take_of_length_le (by simp)]
 have e:=Xc (Df (ll.map List.length)) hs;simp only[hfull]at hs1;generalize Df (ll.map List.length)=N at e hs1;simp[p236];rw[hs1]
 ·simp[b236_1,  e];rw[hs0]
  ·simp[b236_0]
  ·simp
  ·simp
 ·simp
 ·simp[Df]
theorem JM [PKI] (hK:Cm PK) (a b:LI) (ha:a.length<=500000) (hb:b.length<=500000):sG 196 [.v (.im 1 (enc fI a)),.v (.im 1 (enc fI b))]=some ⟨[.v (.own 1 (enc fI (uni a b)))],[],[]⟩:=by
 refine sK p196 ?_;have e:=Tw [a,b] (by simp) (by simp[Df];omega);have hf:[a,b].flatten=a++b:=by simp
 rw[hf]at e;have hl:(a++b).length<=1000000:=by simp;omega
 unfold uni;simp only[BN,BA,fII]at e;generalize a++b=ab at*;have hs:= @lok _ 10000000 [5,12,13,14] b196_0 (λj=>st196 ab ((ab.take j).foldl C5 []) j) ab.length (λj hj=>by
  obtain⟨x,hx⟩:=AF hj;obtain⟨_,hx'⟩:=BT hx;have hinc:=Ar hj (by omega);have hl2:=Ga (ab.take j) [];simp only[List.length_take,List.length_nil]at hl2;simp only[Bi C5 [] ab hx];generalize (ab.take j).foldl C5 []=o at hl2 ⊢;have e:=LD hK o x (by omega);simp[b196_0,  hj,hx',hinc,e]) (by simp[b196_0])
 simp[p196,  e];rw[hs]
 ·simp[b196_0]
 ·simp
 ·simp
def who1 (x y:AE) (k:Int):Int:=if k=2 then(if !y.mt.fine||x.prime then 0 else 2)else(if !x.mt.fine||y.prime then 0 else k)
theorem Ku [PKI] (x y:AE) (k:Int):sG 194 [.a (AD (fN x)),.a (AD (fN y)),.v (.sc (I6 k))]=some ⟨[.v (.sc (I6 (who1 x y k)))],[],[]⟩:=by
 refine sK p194 ?_;unfold who1;by_cases hk:k=2
 ·subst hk
  cases h1:y.mt.fine<;>cases h2:x.prime<;>simp[p194,  h1,h2]
 ·cases h1:x.mt.fine<;>cases h2:y.prime<;>simp[p194,  hk,h1,h2]
theorem RJ [PKI] (x y:AE) (hx:NOk x) (hy:NOk y):sG 192 [.a (AD (fN x)),.a (AD (fN y))]=some ⟨[.v (.sc (I6 (if y.id=2 then bit (J3 x y) 1 else 2*bit (J3 y x) 1)))],[],[]⟩:=by
 refine sK p192 ?_;have g1:=hx.gens12;have g2:=hy.gens12;obtain⟨v,y1,hv,hv',hvd⟩:=AK y.mt.gens (j:=0) (by omega);obtain⟨u,u1,hu,hu',hud⟩:=AK x.mt.gens (j:=0) (by omega);have e1:=BQ x.mt.gens v (by omega);have e2:=BQ y.mt.gens u (by omega);unfold J3 bit;rw[hvd,hud];by_cases h:y.id=2
 ·cases h1:x.prime<;>cases h2:x.mt.fine<;>by_cases h3:v∈x.mt.gens<;>simp[p192,  e1,eq_true h,h1,h2,h3,y1,hv']
 ·cases h1:y.prime<;>cases h2:y.mt.fine<;>by_cases h3:u∈y.mt.gens<;>simp[p192,  e2,h,h1,h2,h3,u1,hu']
theorem IE [PKI] (x y : AE) (hx : nS x) (hy : nS y) : sG 149 [.a (AD (fN x)), .a (AD (fN y))] = some ⟨[.v (.sc (I6 (EY x y)))], [], []⟩ := by
  refine sK p149 ?_;have e1 := Ak x hx;have e2 := Ak y hy;unfold EY;simp only [AD, lent, fN] at e1 e2
  cases h1 : AL x
  · simp [p149,  e1, h1]
  cases h2 : AL y
  · simp [p149,  e1, e2, h1, h2]
  have nx := Ai h1;have ny := Ai h2;obtain ⟨i, i3, hi⟩ := nx.nat;obtain ⟨j, j3, hj⟩ := ny.nat;obtain ⟨cx, q1, hc, hc', hcd⟩ := Aj x.conn (j := j) (by have := nx.conn; omega);obtain ⟨cy, q2, hd, hd', hdd⟩ := Aj y.conn (j := i) (by have := ny.conn; omega);have e3 := RJ x y nx ny;have e5 := Ku x y 1;have e6 := Ku x y 2;have g1 := nx.gens12;have g2 := ny.gens12;have e7 := PW x.mt.gens y.mt.gens g1.2.1 g2.2.1 (by omega) (by omega);have hcn := MX x.mt.gens y.mt.gens;unfold UK;simp only [AD, lent, fN] at e3 e5 e6;simp only [hi, hj] at e1 e2 e3 e5 e6 ⊢;simp only [Int.toNat_natCast, hcd, hdd];by_cases h3 : (i : Int) = j
  · simp [p149,  e1, e2, h1, h2, hi, hj, eq_true h3]
  have h3' : ¬ i = j := by omega
  cases h4 : x.up
  · rw [h4] at e1
    simp [p149,  e1, e2, h1, h2, hi, hj, h3, h3', h4]
  cases h5 : y.up
  · rw [h4] at e1
    rw [h5] at e2
    simp [p149,  e1, e2, h1, h2, hi, hj, h3, h3', h4, h5]
  rw [h4] at e1 e3 e5 e6;rw [h5] at e2 e3 e5 e6
  cases cx
  case true => simp [p149,  e1, e2, h1, h2, hi, hj, h3, h3', h4, h5, q1, hc']
  cases cy
  case true => simp [p149,  e1, e2, h1, h2, hi, hj, h3, h3', h4, h5, q1, q2, hc', hd']
  by_cases h6 : (j : Int) = 2
  · rw [if_pos h6] at e3
    have h7 : ¬ (i : Int) = 2 := by omega
    simp [p149,  e1, e2, h1, h2, hi, hj, h3, h3', h4, h5, q1, q2, hc', hd', eq_true h6, h7, e3]
  rw [if_neg h6] at e3;by_cases h7 : (i : Int) = 2
  · simp [p149,  e1, e2, h1, h2, hi, hj, h3, h3', h4, h5, q1, q2, hc', hd', h6, eq_true h7, e3]
  generalize Fz x.mt.gens y.mt.gens = q at *;unfold who1 at e5 e6
  cases k1 : x.prime <;> cases k2 : y.prime <;> cases k3 : x.mt.fine <;> cases k4 : y.mt.fine <;> simp only [k1, k2, k3, k4] at e1 e2 e5 e6 <;> rcases hcn with rfl | rfl | rfl | rfl <;>
    first
    | (simp [p149,  e1, e2, h1, h2, hi, hj, h3, h3', h4, h5, q1, q2, hc', hd', h6, h7, e5, e6, e7, k1, k2, k3, k4]; done)
    | (by_cases h8 : y.mt.last > x.mt.last
       · have h9 : ¬ y.mt.last <= x.mt.last := by omega
         simp [p149,  e1, e2, h1, h2, hi, hj, h3, h3', h4, h5, q1, q2, hc', hd', h6, h7, e5, e6, e7, k1, k2, k3, k4, h8, h9]
       · have h9 : y.mt.last <= x.mt.last := by omega
         simp [p149,  e1, e2, h1, h2, hi, hj, h3, h3', h4, h5, q1, q2, hc', hd', h6, h7, e5, e6, e7, k1, k2, k3, k4, h8, h9])
theorem Od [PKI] (hK:Cm PK) (x y:AE) (hx:nS x) (hy:nS y):sG 195 [.a (AD (fN x)),.a (AD (fN y))]=some ⟨[.v (.own 1 (enc fI (Bj x y)))],[],[]⟩:=by
 refine sK p195 ?_;have e1:=Ak x hx;have e2:=Ak y hy;simp only[AD,lent,fN]at e1 e2;unfold Bj
 cases h1:AL x
 ·simp[p195,  e1,h1]
 cases h2:AL y
 ·simp[p195,  e1,e2,h1,h2]
 have nx:=Ai h1;have ny:=Ai h2;obtain⟨i,i3,hi⟩:=nx.nat;obtain⟨j,j3,hj⟩:=ny.nat;obtain⟨a,y1,ha,ha',had,ham⟩:=Ah x.mt.bits (j:=j) (by have:=nx.bits3;omega);obtain⟨b,y2,hb,hb',hbd,hbm⟩:=Ah y.mt.bits (j:=i) (by have:=ny.bits3;omega);have l1:=Ec (nx.bit8 a ham);have l2:=Ec (ny.bit8 b hbm);have e3:=JM hK a b (by omega) (by omega);simp only[hi,hj]at e1 e2 ⊢;simp only[Int.toNat_natCast,had,hbd];simp[p195,  e1,e2,h1,h2,hi,hj,y1,y2,ha',hb',e3]
end Go.Proofs.YtghgecpicnfgpaaGreat.Ow
