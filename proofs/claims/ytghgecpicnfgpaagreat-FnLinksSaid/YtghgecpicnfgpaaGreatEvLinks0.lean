/- Functions evaluated on the small machine: LinkText of D8: evaluated, Of two nodes not D8 copy to the other one: kept by all deeds, Of two nodes not D8 copy to the other one: kept by giving, roles, joining; by all deeds. -/
import Derived.Test.YtghgecpicnfgpaaGreatEv8
import Derived.Test.YtghgecpicnfgpaaGreatEv29
namespace Go.Proofs.YtghgecpicnfgpaaGreat.Ow
open Go
set_option linter.unusedVariables false
set_option linter.unusedSimpArgs false
set_option maxHeartbeats 4000000
def linkText (x y:AE):ByteArray:=
 if AL x=true/\AL y=true/\ ¬x.id=y.id then
  if x.conn.getD y.id.toNat false&&y.conn.getD x.id.toNat false then
   if x.copies.getD y.id.toNat false then⟨#[102,114,111,109]⟩
   else if y.copies.getD x.id.toNat false then⟨#[116,111]⟩else⟨#[106,111,105,110,101,100]⟩
  else⟨#[97,112,97,114,116]⟩
 else⟨#[110,111,110,101]⟩
theorem ev_spec_LinkText [PKI] (x y:AE) (hx:nS x) (hy:nS y):sG 12 [.a (AD (fN x)),.a (AD (fN y))]=some ⟨[.v (.sc (.string (linkText x y)))],[],[]⟩:=by
 refine sK p12 ?_;have e0:=Ab x hx;have e1:=Ab y hy;simp only[AD,lent,fN]at e0 e1;unfold linkText
 cases h0:AL x
 ·rw[h0]at e0;simp[p12,  e0]
 rw[h0]at e0
 cases h1:AL y
 ·rw[h1]at e1;simp[p12,  e0,e1]
 rw[h1]at e1;by_cases hid:x.id=y.id
 ·simp[p12,  e0,e1,eq_true hid]
 have nx:=Ai h0;have ny:=Ai h1;obtain⟨i,hi,hxi⟩:=nx.nat;obtain⟨j,hj,hyj⟩:=ny.nat;obtain⟨c1,y1,_,a1,d1⟩:=Aj x.conn (j:=j) (by rw[nx.conn];omega);obtain⟨c2,y2,_,a2,d2⟩:=Aj y.conn (j:=i) (by rw[ny.conn];omega);obtain⟨c3,y3,_,a3,d3⟩:=Aj x.copies (j:=j) (by rw[nx.copies];omega);obtain⟨c4,y4,_,a4,d4⟩:=Aj y.copies (j:=i) (by rw[ny.copies];omega);have hij: ¬ (i:Int)=j:=by rw[<-hxi,<-hyj];exact hid
 rw[hxi]at e0;rw[hyj]at e1;simp only[hxi,hyj,Int.toNat_natCast,d1,d2,d3,d4]
 cases c1<;>cases c2<;>cases c3<;>cases c4<;>simp[p12,  e0,e1,hxi,hyj,hij,y1,a1,y2,a2,y3,a3,y4,a4]
theorem ev_impl_LinkText [PKI] (x y:AE) (hx:nS x) (hy:nS y):sG 11 [.a (AD (fN x)),.a (AD (fN y))]=some ⟨[.v (.sc (.string (linkText x y)))],[],[]⟩:=by
 refine sK p11 ?_;have e0:=Ak x hx;have e1:=Ak y hy;simp only[AD,lent,fN]at e0 e1;unfold linkText
 cases h0:AL x
 ·rw[h0]at e0;simp[p11,  e0]
 rw[h0]at e0
 cases h1:AL y
 ·rw[h1]at e1;simp[p11,  e0,e1]
 rw[h1]at e1;by_cases hid:x.id=y.id
 ·simp[p11,  e0,e1,eq_true hid]
 have nx:=Ai h0;have ny:=Ai h1;obtain⟨i,hi,hxi⟩:=nx.nat;obtain⟨j,hj,hyj⟩:=ny.nat;obtain⟨c1,y1,_,a1,d1⟩:=Aj x.conn (j:=j) (by rw[nx.conn];omega);obtain⟨c2,y2,_,a2,d2⟩:=Aj y.conn (j:=i) (by rw[ny.conn];omega);obtain⟨c3,y3,_,a3,d3⟩:=Aj x.copies (j:=j) (by rw[nx.copies];omega);obtain⟨c4,y4,_,a4,d4⟩:=Aj y.copies (j:=i) (by rw[ny.copies];omega);have hij: ¬ (i:Int)=j:=by rw[<-hxi,<-hyj];exact hid
 rw[hxi]at e0;rw[hyj]at e1;simp only[hxi,hyj,Int.toNat_natCast,d1,d2,d3,d4]
 cases c1<;>cases c2<;>cases c3<;>cases c4<;>simp[p11,  e0,e1,hxi,hyj,hij,y1,a1,y2,a2,y3,a3,y4,a4]
def cpy (w:AB) (i k:Nat):Bool:=(nd w i).copies.getD k false
def CLe (v w:AB):Prop:= ∀i k:Nat,i<3->k<3->cpy v i k=true->cpy w i k=true
def NL (q n:AE):Prop:= ∀k:Nat,q.copies.getD k false=true->n.copies.getD k false=true
theorem NL.of {q n:AE} (h:q.copies=n.copies):NL q n:=λk hk=>by rw[h]at hk;exact hk
theorem CLe.refl (w:AB):CLe w w:=λ_ _ _ _ h=>h
theorem CLe.trans {u v w:AB} (h:CLe u v) (g:CLe v w):CLe u w:=λi k hi hk hc=>g i k hi hk (h i k hi hk hc)
theorem CLe.of {v w:AB} (h:v.nodes=w.nodes):CLe v w:=λi k hi hk hc=>by unfold cpy nd at hc ⊢;rw[h]at hc;exact hc
theorem less_set {w:AB} {a:Nat} {q:AE} (h3:w.nodes.length=3) (h:NL q (nd w a)):CLe {w with nodes:=w.nodes.set a q} w:=λi k hi hk hc=>by
 unfold cpy at hc ⊢;rw[Lk h3 hi]at hc;by_cases ha:a=i
 ·rw[if_pos ha]at hc;rw[<-ha];exact h k hc
 ·rw[if_neg ha]at hc;exact hc
theorem NL_cut (n:AE) (b:Nat):NL (Cr n b) n:=λk hk=>by
 unfold Cr at hk;simp only[List.getD_eq_getElem?_getD,List.getElem?_set]at hk ⊢;by_cases hb:b=k
 ·rw[if_pos hb]at hk;split at hk<;>simp at hk
 ·rw[if_neg hb]at hk;exact hk
theorem less_cut {w:AB} {a b:Nat} (h3:w.nodes.length=3) (ha:a<3) (hb:b<3) (hab:a≠b):CLe (CQ w a b) w:=by
 have h1:CLe {w with nodes:=w.nodes.set a (Cr (nd w a) b)} w:=less_set h3 (NL_cut _ _);have h2:CLe {w with nodes:=(w.nodes.set a (Cr (nd w a) b)).set b (Cr (nd w b) a)} {w with nodes:=w.nodes.set a (Cr (nd w a) b)}:=less_set (w:={w with nodes:=w.nodes.set a (Cr (nd w a) b)}) (by simp only[List.length_set];exact h3) (by
  rw[Lk h3 hb,if_neg hab];exact NL_cut _ _)
 exact(show CLe (CQ w a b) {w with nodes:=(w.nodes.set a (Cr (nd w a) b)).set b (Cr (nd w b) a)} from CLe.of rfl).trans (h2.trans h1)
theorem less_sendF {w:AB} {p:Bz} (h:WL w) (hp:GU p):CLe (FU w p) w:=by
 obtain⟨i,k,hi,hk,hik,h1,h2,_⟩:=hp;unfold FU;rw[h1,h2];simp only[Int.toNat_natCast];split
 ·split
  ·exact less_cut h.n3 hi hk hik
  ·exact CLe.of rfl
 ·exact CLe.refl w
theorem less_send {l:List Bz} (hp: ∀p∈l,GU p): ∀ {w:AB},WL w->CLe (DA w l) w:=by
 induction l with
 |nil=>intro w h;exact CLe.refl w
 |cons p l ih=>
  intro w h;have h1:=hp p List.mem_cons_self;exact(ih (λq hq=>hp q (List.mem_cons_of_mem _ hq)) (Nc h h1).1).trans (less_sendF h h1)
theorem writeN_cp (n:AE) (cell val:Int):(Bd n cell val).1.copies=n.copies:=by
 unfold Bd;split
 ·unfold Ew;split<;>rfl
 ·rfl
theorem knownN_cp (n:AE) (who cell val:Int):(CG n who cell val).copies=n.copies:=by unfold CG;split<;>rfl
theorem hearN_cp (n:AE) (src:Int) (m:A2):(Di n src m).1.copies=n.copies:=by
 unfold Di;split
 ·unfold D3;split
  ·rfl
  ·split
   ·rfl
   ·split
    ·rfl
    ·split
     ·unfold I4;split<;>exact knownN_cp _ _ _ _
     ·split
      ·rfl
      ·exact knownN_cp _ _ _ _
 ·rfl
theorem NL_copy (n:AE) (b:Nat):NL (Ep n b).1 n:=by
 unfold Ep;split
 ·split
  ·exact .of rfl
  ·split
   ·intro k hk;have h1:(IM n b).copies=n.copies.set b false:=by unfold IM A7;simp
    simp only[h1,List.getD_eq_getElem?_getD,List.getElem?_set]at hk ⊢;by_cases hb:b=k
    ·rw[if_pos hb]at hk;split at hk<;>simp at hk
    ·rw[if_neg hb]at hk;exact hk
   ·exact .of rfl
 ·exact .of rfl
theorem NL_fall (n:AE):NL (H6 n) n:=by
 unfold H6;split
 ·intro k hk;unfold QL at hk;simp only[List.getD_eq_getElem?_getD]at hk;rcases(by omega:k=0\/k=1\/k=2\/3<=k)with rfl|rfl|rfl|h3
  ·cases hk
  ·cases hk
  ·cases hk
  ·rw[List.getElem?_eq_none (by simp;omega)]at hk;cases hk
 ·exact .of rfl
def CP (w:AB):Prop:= ∀i k:Nat,i<3->k<3->cpy w i k=true->cpy w k i=false
theorem CP.less {v w:AB} (h:CP w) (hl:CLe v w):CP v:=λi k hi hk hc=>by
 have h1:=h i k hi hk (hl i k hi hk hc)
 cases h2:cpy v k i
 ·rfl
 ·have:=hl k i hk hi h2;rw[h1]at this;cases this
theorem less_write1 {w:AB} {a:Nat} {cell:Int} (h:WI w) (ha:a<3):CLe (JV w a cell) w:=by
 unfold JV;have hc:=h.nd ha;have hr:=GN (cell:=cell) (val:=(w.log.length+1:Nat)) hc;have hps:=EA (cell:=cell) (val:=(w.log.length+1:Nat)) (i:=a) (h.id a ha) ha;have hcp:=writeN_cp (nd w a) cell (w.log.length+1:Nat);generalize Bd (nd w a) cell (w.log.length+1:Nat)=r at*;obtain⟨q,ps⟩:=r;simp only at hr hps hcp ⊢;have hWL: ∀ (lg:List Dw) (s:LI),WL {w with log:=lg,nodes:=w.nodes.set a q,safe:=s}:=λlg s=>⟨by simp only[List.length_set];exact h.n3,λx hx=>by
  rcases List.mem_or_eq_of_mem_set hx with hx|rfl
  ·exact h.L.c3 x hx
  ·exact⟨hr.1.conn,hr.1.copies,hr.1.sync⟩,by have:=h.net;simp only;omega⟩
 have hl: ∀ (lg:List Dw) (s:LI),CLe {w with log:=lg,nodes:=w.nodes.set a q,safe:=s} w:=λlg s=>(CLe.of rfl:CLe _ {w with nodes:=w.nodes.set a q}).trans (less_set h.n3 (.of hcp))
 split
 ·exact(less_send hps (hWL _ _)).trans (hl _ _)
 ·exact(less_send hps (hWL _ _)).trans (hl _ _)
theorem less_write {w:AB} {a:Nat} {cell:Int} (h:WI w) (ha:a<3):CLe (FT w a cell).1 w:=by
 unfold FT;split
 ·exact CLe.refl w
 rename_i hmw;have hmw:Dh (nd w a)=true:=by simpa using hmw
 split
 ·exact CLe.refl w
 obtain⟨nx,hpr⟩:=Hu hmw;have ha2:a≠2:=by
  have h1:=nx.prime hpr;intro h2;subst h2;exact h1.2 (h.id 2 (by omega))
 cases hg:JU w a
 ·simp only[Bool.false_eq_true,if_false];split
  ·exact CLe.refl w
  ·exact less_write1 h ha
 ·simp only[if_true];split
  ·exact less_cut h.n3 ha (by omega) ha2
  ·exact(less_write1 (LL h ha (by omega) ha2) ha).trans (less_cut h.n3 ha (by omega) ha2)
theorem less_dn {w:AB} {a:Nat} (ha:a<3) (h:DnI a ⟨w,0,[]⟩): ∀j,j<=3->CLe ((List.range j).foldl (dnF a) ⟨w,0,[]⟩).w w
 |0,_=>CLe.refl w
 |j+1,hj=>by
  have hD:=LJ ha h j (by omega);have ih:=less_dn ha h j (by omega);rw[CM];generalize (List.range j).foldl (dnF a) ⟨w,0,[]⟩=s at*;unfold dnF;split
  ·rename_i hc;have hak:a≠j:=λe=>by subst e;rw[hD.self]at hc;cases hc
   exact(less_cut hD.w.n3 ha (by omega) hak).trans ih
  ·exact ih
theorem less_down {w:AB} {a:Nat} (ha:a<3) (h:DnI a ⟨w,0,[]⟩):CLe (Ml w a) w:=by
 have h1:=less_dn ha h 3 (Nat.le_refl _);have hD:=LJ ha h 3 (Nat.le_refl _);unfold Ml;exact(less_set hD.w.n3 (NL_fall _)).trans h1
theorem less_fall {w:AB} {kind:Int} {a:Nat} {b:Int} (hok:Ap w=true) (hw:wS w) (ha:a<3):CLe (F3 w kind a b).1 w:=by
 have hWI:=A9 hok hw;unfold F3;split
 ·split
  ·exact CLe.refl w
  ·refine less_set hWI.n3 (.of ?_);unfold KW;split<;>rfl
 ·split
  ·exact CLe.refl w
  ·rename_i hb;by_cases h6:kind=6
   ·simp only[if_pos h6];have hb6:inB b 0 155=true:=by
     cases hh:inB b 0 155
     ·exact absurd (by simp[h6,hh]) hb
     ·rfl
    have rb:=AP.1 hb6;have hna:nd (Dx w a b) a=Hc (nd w a) b:=by unfold Dx;rw[Lk hWI.n3 ha,if_pos rfl]
    have hD:DnI a ⟨Dx w a b,0,[]⟩:=⟨Rl hWI ha rb.2,.inl rfl,by
     have h1:=(JY hok hw ha).self;unfold EM at h1 ⊢;simp only[Int.toNat_natCast]at h1 ⊢;rw[hna];exact h1⟩
    exact(less_down ha hD).trans (less_set hWI.n3 (.of rfl))
   ·simp only[if_neg h6];exact less_down ha (JY hok hw ha)
theorem less_give {w:AB} {kind a:Int} (hok:Ap w=true) (hw:wS w):CLe (F1 w kind a).1 w:=by
 have hWI:=A9 hok hw;unfold F1;split
 ·exact CLe.refl w
 ·rename_i hb;have hb:inB a 0 ((w.net.length:Int) - 1)=true:=by simpa using hb
  have rb:=AP.1 hb;split
  ·split
   ·exact CLe.refl w
   ·exact CLe.of rfl
  ·have hkn:a.toNat<w.net.length:=by omega
   have hle:=Lq hkn;obtain⟨i,q,hi1,hq1,hi,hq,hiq,hb4⟩:=Gv hok (j:=Cv w a.toNat) (by omega);obtain⟨v,_,_,_,hvd,_⟩:=AX w.net zW (j:=Cv w a.toNat) (by omega);rw[hvd]at hi1 hq1;simp only[hvd];have hl1:(w.net.take (Cv w a.toNat)++w.net.drop (Cv w a.toNat+1)).length<=w.net.length:=by simp only[List.length_append,List.length_take,List.length_drop];omega
   generalize w.net.take (Cv w a.toNat)++w.net.drop (Cv w a.toNat+1)=net1 at*
   cases hr:Fx v with
   |none=>
    simp only;rw[hi1,hq1];simp only[Int.toNat_natCast];exact(less_cut (w:={w with net:=net1}) hWI.n3 hi hq hiq).trans (CLe.of rfl)
   |some m=>
    have hg:=Jh hr;simp only;unfold Ud;rw[hi1,hq1];simp only[Int.toNat_natCast];simp only[show nd {w with net:=net1} q=nd w q from rfl];have hps:=H2 (src:=(i:Int)) (m:=m) (hWI.id q hq) hq;have hrb:=N6 (src:=(i:Int)) (m:=m) (hWI.nd hq) (by omega);have hcp:=hearN_cp (nd w q) i m;generalize Di (nd w q) i m=r at*;obtain⟨r1,ps⟩:=r;simp only at hps hrb hcp ⊢;refine(less_send hps ⟨by unfold El;simp only[List.length_set];exact hWI.n3,λx hx=> ?_,by unfold El;simp only;have:=hWI.net;omega⟩).trans ?_
    ·rcases List.mem_or_eq_of_mem_set hx with hx|rfl
     ·exact hWI.L.c3 x hx
     ·exact⟨hrb.conn,hrb.copies,hrb.sync⟩
    ·exact(CLe.of rfl:CLe _ {w with nodes:=w.nodes.set q r1}).trans (less_set hWI.n3 (.of hcp))
theorem less_copies {w:AB} {a b:Nat} (h:WI w) (ha:a<3) (hb:b<3):CLe (EP w a b).1 w:=by
 unfold EP;split
 ·exact CLe.refl w
 ·split
  ·exact CLe.refl w
  ·have hc:=h.nd ha;have hr:=Ot (to:=(b:Int)) hc;have hps:=IL (n:=nd w a) (h.id a ha) ha hb (by have:=hc.gens;omega);have hl:=NL_copy (nd w a) b;generalize Ep (nd w a) b=r at*;obtain⟨q,ps⟩:=r;simp only at hr hps hl ⊢;exact(less_send (w:={w with nodes:=w.nodes.set a q}) hps ⟨by simp only[List.length_set];exact h.n3,λx hx=>by
    rcases List.mem_or_eq_of_mem_set hx with hx|rfl
    ·exact h.L.c3 x hx
    ·exact⟨hr.1.conn,hr.1.copies,hr.1.sync⟩,by have:=h.net;simp only;omega⟩).trans (less_set h.n3 hl)
theorem hold1_cp (x y:AE) (g:Int):(FG x y g).1.copies=x.copies/\(FG x y g).2.1.copies=y.copies:=by
 unfold FG;split<;>exact⟨rfl,rfl⟩
theorem lead1_cp (x y:AE) (q:Bool):(Hz x y q).1.copies=x.copies:=by unfold Hz;split<;>rfl
theorem leave1_cp (x:AE):(Fa x).1.copies=x.copies:=by unfold Fa;split<;>rfl
theorem less_role {w:AB} {kind:Int} {a b:Nat} (h:WI w) (ha:a<3) (hb:b<3) (hab:a≠b):CLe (Hh w kind a b).1 w:=by
 unfold Hh;split
 ·split
  ·have hcp:=hold1_cp (nd w a) (nd w b) w.gen;generalize FG (nd w a) (nd w b) w.gen=r at*;have h1:CLe {w with nodes:=w.nodes.set a r.1} w:=less_set h.n3 (.of hcp.1);have h2:CLe {w with nodes:=(w.nodes.set a r.1).set b r.2.1} {w with nodes:=w.nodes.set a r.1}:=less_set (w:={w with nodes:=w.nodes.set a r.1}) (by simp only[List.length_set];exact h.n3) (by
    rw[Lk h.n3 hb,if_neg hab];exact .of hcp.2)
   exact(CLe.of rfl:CLe _ {w with nodes:=(w.nodes.set a r.1).set b r.2.1}).trans (h2.trans h1)
  ·exact CLe.refl w
 ·split
  ·split
   ·exact less_set h.n3 (.of (lead1_cp _ _ _))
   ·exact CLe.refl w
  ·split
   ·exact less_set h.n3 (.of (leave1_cp _))
   ·exact CLe.refl w
theorem cp_join1 {w:AB} {a b:Nat} (h:WI w) (ha:a<3) (hb:b<3) (hab:a≠b) (hc:CP w):CP (Ls w a b).1:=by
 unfold Ls EK;by_cases hs:EY (nd w a) (nd w b)=1
 case neg=>simp only[decide_eq_false hs,Bool.false_and,Bool.false_eq_true,if_false];exact hc
 cases hA:AL (HO (nd w a) (nd w b))
 ·simp only[Bool.and_false,Bool.false_and,Bool.false_eq_true,if_false];exact hc
 cases hB:AL (Kl (nd w a) (nd w b))
 ·simp only[Bool.and_false,Bool.false_eq_true,if_false];exact hc
 simp only[decide_eq_true hs,Bool.and_self,if_true];obtain⟨o1,o2,o3,o4,o5,o6,o7⟩:=Pn (x:=nd w a) (y:=nd w b) (by omega);have ia:=h.id a ha;have ib:=h.id b hb;rw[ib]at o6;rw[ia]at o7;simp only[Int.toNat_natCast]at o6 o7;have c2:(nd w b).copies.getD a false=false:=by
  cases hcp:(nd w b).copies.getD a false
  ·rfl
  ·have h3:=(Hw (Ai o2) ha).1 hcp;rw[o7]at h3;cases h3
 have kA:(HO (nd w a) (nd w b)).copies=(nd w a).copies.set b true:=by unfold HO A7;simp only[ib,Int.toNat_natCast]
 have kB:(Kl (nd w a) (nd w b)).copies=(nd w b).copies:=rfl;generalize HO (nd w a) (nd w b)=qa at*;generalize Kl (nd w a) (nd w b)=qb at*;have hcl:(nd w a).copies.length=3:=(h.nd ha).b.copies;have val: ∀i k:Nat,i<3->k<3->cpy {w with nodes:=(w.nodes.set a qa).set b qb} i k=if i=a/\k=b then true else cpy w i k:=λi k hi hk=>by
  unfold cpy;rw[Lk (w:={w with nodes:=w.nodes.set a qa}) (by simp only[List.length_set];exact h.n3) hi,Lk h.n3 hi];by_cases hib:b=i
  ·rw[if_pos hib,if_neg (λhh=>hab (hh.1.symm.trans hib.symm)),kB,hib]
  ·rw[if_neg hib];by_cases hia:a=i
   ·rw[if_pos hia,kA];simp only[List.getD_eq_getElem?_getD,List.getElem?_set];by_cases hkb:b=k
    ·rw[if_pos hkb,if_pos (by omega),if_pos ⟨hia.symm,hkb.symm⟩];rfl
    ·rw[if_neg hkb,if_neg (λhh=>hkb hh.2.symm),hia]
   ·rw[if_neg hia,if_neg (λhh=>hia hh.1.symm)]
 intro i k hi hk hh;rw[val i k hi hk]at hh;rw[val k i hk hi];by_cases h1:i=a/\k=b
 ·rw[if_neg (λh2=>hab (h1.1.symm.trans h2.2)),h1.1,h1.2];exact c2
 ·rw[if_neg h1]at hh;by_cases h2:k=a/\i=b
  ·exfalso;rw[h2.1,h2.2]at hh;unfold cpy at hh;rw[c2]at hh;cases hh
  ·rw[if_neg h2];exact hc i k hi hk hh
theorem cp_one {w:AB} {d:CD} (hk:1<=d.kind/\d.kind<=12) (hok:Ap w=true) (hw:wS w) (hc:CP w):CP (FW w d).1:=by
 have hWI:=A9 hok hw;have hN:=F7 hok;unfold FW;split
 ·exact hc.less (less_give hok hw)
 ·split
  ·exact hc
  ·rename_i hx;have ha:inB d.a 0 2=true:=by
    cases h:inB d.a 0 2
    ·exact absurd (by simp[h]) hx
    ·rfl
   have ra:=AP.1 ha;have ha3:d.a.toNat<3:=by omega
   split
   ·exact hc.less (less_write hWI ha3)
   ·split
    ·unfold QX;split
     ·exact hc
     ·rename_i hy;have hb:inB d.b 0 2=true:=by
       cases h:inB d.b 0 2
       ·exact absurd (by simp[h]) hy
       ·rfl
      have rb:=AP.1 hb;have hab:d.a.toNat≠d.b.toNat:=λh=>hy (by
       have:(d.a.toNat:Int)=d.b:=by omega
       simp[this])
      have hb3:d.b.toNat<3:=by omega
      split
      ·unfold H0;split
       ·exact hc
       ·split
        ·exact cp_join1 hWI hb3 ha3 hab.symm hc
        ·exact cp_join1 hWI ha3 hb3 hab hc
      ·split
       ·exact hc.less (less_copies hWI ha3 hb3)
       ·split
        ·exact hc
        ·exact hc.less (less_cut hWI.n3 ha3 hb3 hab)
    ·split
     ·exact hc.less (less_fall hok hw ha3)
     ·split
      ·exact hc
      ·exact hc.less (less_role hWI ha3 (by omega) (by omega))
theorem cp_fold {l:List CD}: ∀ {s:AB×LI},Ap s.1=true->wS s.1->CP s.1->CP (l.foldl daF s).1:=by
 induction l with
 |nil=>intro s _ _ h;exact h
 |cons d l ih=>
  intro s h1 h2 h3;rw[List.foldl_cons];have key:Ap (daF s d).1=true/\wS (daF s d).1/\CP (daF s d).1:=by
   unfold daF;simp only;by_cases h:(doW s.1 d).2=0
   ·rw[if_pos h];obtain⟨a1,_,a2,_,a4⟩:=doW_0 h;rw[a1];exact⟨a2,(NJ h1 h2).S,cp_one (AP.1 a4) h1 h2 h3⟩
   ·rw[if_neg h];exact⟨h1,h2,h3⟩
  exact ih key.1 key.2.1 key.2.2
theorem doAllW_I {w:AB} {l:List CD} (h1:Ap w=true) (h2:wS w) (h3:CP w):Ap (ME w l).1=true/\wS (ME w l).1/\CP (ME w l).1:=by
 unfold ME;split
 ·exact⟨h1,h2,h3⟩
 ·obtain⟨a1,a2,_⟩:=daF_I (l:=l) (s:=(w,[])) h1 h2;exact⟨a1,a2,cp_fold (s:=(w,[])) h1 h2 h3⟩
end Go.Proofs.YtghgecpicnfgpaaGreat.Ow
