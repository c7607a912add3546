/- What is drawn: nodes, worlds that may be spoiled. -/
import Derived.Test.YtghgecpicnfgpaaGreatEv32
namespace Go.Proofs.YtghgecpicnfgpaaGreat.Ow
open Go
set_option linter.unusedVariables false
set_option linter.unusedSimpArgs false
set_option maxHeartbeats 16000000
theorem OO [PKI] (b:LI) (c:Nat×Int) (hb:byt b) (hc:c.1<=b.length): ∃n c',nB n/\c'.1<=b.length/\sG 131 [.pm (cur b c)]=some ⟨[.a (AA (fN n))],[],[cur b c']⟩:=by
 obtain⟨w,c1,hw,k1,e1⟩:=HV b c hb hc;obtain⟨x,c2,hx,_,k2,e2⟩:=AO b c1 3 hb k1 (by omega);obtain⟨k,rfl,hk⟩:=FM hx (by omega);obtain⟨n,hn⟩:=AF (l:=w.nodes) (i:=k) (by have:=hw.n3;omega);obtain⟨hkl,hn'⟩:=BT hn;have hnC:=(A9 hw.ok hw.S).node n (List.mem_of_getElem? hn);simp only[cur,AA,AJ,fWo]at e1 e2;refine⟨n,c2,hnC.b,k2,sK p131 ?_⟩;simp (maxSteps:=9999999) [p131,  e1,e2,hkl,hn,hn']
structure nD (n:AE):Prop where
 S:nS n
 copies:n.copies.length=3
theorem VX [PKI] (b:LI) (c:Nat×Int) (hb:byt b) (hc:c.1<=b.length): ∃n c',nD n/\c'.1<=b.length/\sG 87 [.pm (cur b c)]=some ⟨[.a (AA (fN n))],[],[cur b c']⟩:=by
 obtain⟨⟨id,up,pr,im,⟨ge,bi,fi,ol,he,la⟩,⟨sa,sb⟩,co,sy,cp,wa⟩,c1,hn,k1,e1⟩:=OO b c hb hc;have hS:=hn.nS;obtain⟨n1,n2,n3,n4,n5,n6,n7,n8,n9,n10⟩:=hn;obtain⟨s1,s2,s3,s4,s5,s6,s7⟩:=hS;simp only at n1 n2 n3 n4 n5 n6 n7 n8 n9 n10 s1 s2 s3 s4 s5 s6 s7;obtain⟨x,c2,hx,_,k2,e2⟩:=AO b c1 16 hb k1 (by omega);simp only[cur,AA,AJ,fN]at e1 e2;by_cases x0:x=0
 ·obtain⟨m,c3,hm,_,k3,e3⟩:=OT b c2 hb k2;simp only[cur]at e3;refine⟨⟨id,up,pr,m,⟨ge,bi,fi,ol,he,la⟩,⟨sa,sb⟩,co,sy,cp,wa⟩,c3,⟨⟨by simp only;omega,s2,s3,s4,s5,s6,s7⟩,n9⟩,k3,sK p87 ?_⟩;simp (maxSteps:=9999999) [p87,  e1,e2,e3,x0]
 by_cases x1:x=1
 ·obtain⟨⟨g,B,f,o,h,l⟩,c3,hm,k3,e3⟩:=Va b c2 hb k2;have hmS:=hm.S;simp only[cur,AA,AJ,fM]at e3;refine⟨⟨id,up,pr,im,⟨g,B,f,o,h,l⟩,⟨sa,sb⟩,co,sy,cp,wa⟩,c3,⟨⟨s1,hmS,s3,s4,s5,s6,s7⟩,n9⟩,k3,sK p87 ?_⟩;simp (maxSteps:=9999999) [p87,  e1,e2,e3,x1]
 by_cases x2:x=2
 ·obtain⟨⟨u,v⟩,c3,hs,k3,e3⟩:=VZ b c2 hb k2;simp only[cur,AA,AJ,fSl]at e3;refine⟨⟨id,up,pr,im,⟨ge,bi,fi,ol,he,la⟩,⟨u,v⟩,co,sy,cp,wa⟩,c3,⟨⟨s1,s2,hs,s4,s5,s6,s7⟩,n9⟩,k3,sK p87 ?_⟩;simp (maxSteps:=9999999) [p87,  e1,e2,e3,x2]
 by_cases x3:x=3
 ·obtain⟨y,c3,hy,_,k3,e3⟩:=AO b c2 3 hb k2 (by omega);obtain⟨k,rfl,hk⟩:=FM hy (by omega);obtain⟨f,c4,k4,e4⟩:=DT b c3 2 hb k3 (by omega);simp only[cur]at e3 e4;have hkl:k<co.length:=by omega
  refine⟨⟨id,up,pr,im,⟨ge,bi,fi,ol,he,la⟩,⟨sa,sb⟩,co.set k f,sy,cp,wa⟩,c4,⟨⟨s1,s2,s3,by simp only[List.length_set];exact s4,s5,s6,s7⟩,n9⟩,k4,sK p87 ?_⟩;simp (maxSteps:=9999999) [p87,  e1,e2,e3,e4,x3,hkl]
 by_cases x4:x=4
 ·obtain⟨y,c3,hy,_,k3,e3⟩:=AO b c2 3 hb k2 (by omega);obtain⟨k,rfl,hk⟩:=FM hy (by omega);obtain⟨f,c4,k4,e4⟩:=DT b c3 2 hb k3 (by omega);simp only[cur]at e3 e4;have hkl:k<cp.length:=by omega
  refine⟨⟨id,up,pr,im,⟨ge,bi,fi,ol,he,la⟩,⟨sa,sb⟩,co,sy,cp.set k f,wa⟩,c4,⟨⟨s1,s2,s3,s4,s5,by simp only[List.length_set];exact s6,s7⟩,by simp only[List.length_set];exact n9⟩,k4,sK p87 ?_⟩;simp (maxSteps:=9999999) [p87,  e1,e2,e3,e4,x4,hkl]
 by_cases x5:x=5
 ·obtain⟨y,c3,hy,_,k3,e3⟩:=AO b c2 3 hb k2 (by omega);obtain⟨k,rfl,hk⟩:=FM hy (by omega);obtain⟨m,c4,hm,k4,e4⟩:=IB b c3 hb k3;simp only[cur]at e3 e4;have hkl:k<sy.length:=by omega
  refine⟨⟨id,up,pr,im,⟨ge,bi,fi,ol,he,la⟩,⟨sa,sb⟩,co,sy.set k m,cp,wa⟩,c4,⟨⟨s1,s2,s3,s4,⟨by simp only[List.length_set];exact s5.1,λz hz=> ?_⟩,s6,s7⟩,n9⟩,k4,sK p87 ?_⟩
  ·rcases List.mem_or_eq_of_mem_set hz with hz|rfl
   ·exact s5.2 z hz
   ·omega
  simp (maxSteps:=9999999) [p87,  e1,e2,e3,e4,x5,hkl]
 by_cases x6:x=6
 ·obtain⟨y,c3,hy,k3,e3⟩:=Bw b c2 [0,1,90,201] hb k2 (by simp) (by simp);simp only[cur,BN,BA,fI]at e3;have gs:(wa.length+1)*8<=35184372088832:=by omega
  have happ:enc fI wa++[[T.sc (I6 y)]]=enc fI (wa++[y]):=AU fI wa [y];refine⟨⟨id,up,pr,im,⟨ge,bi,fi,ol,he,la⟩,⟨sa,sb⟩,co,sy,cp,wa++[y]⟩,c3,⟨⟨s1,s2,s3,s4,s5,s6,by simp;omega⟩,n9⟩,k3,sK p87 ?_⟩;simp (maxSteps:=9999999) [p87,  e1,e2,e3,x6,gs,happ]
 by_cases x7:x=7
 ·refine⟨⟨id,!up,pr,im,⟨ge,bi,fi,ol,he,la⟩,⟨sa,sb⟩,co,sy,cp,wa⟩,c2,⟨⟨s1,s2,s3,s4,s5,s6,s7⟩,n9⟩,k2,sK p87 ?_⟩;simp (maxSteps:=9999999) [p87,  e1,e2,x7]
 by_cases x8:x=8
 ·refine⟨⟨id,up,!pr,im,⟨ge,bi,fi,ol,he,la⟩,⟨sa,sb⟩,co,sy,cp,wa⟩,c2,⟨⟨s1,s2,s3,s4,s5,s6,s7⟩,n9⟩,k2,sK p87 ?_⟩;simp (maxSteps:=9999999) [p87,  e1,e2,x8]
 by_cases x9:x=9
 ·obtain⟨y,c3,hy,_,k3,e3⟩:=AO b c2 5 hb k2 (by omega);have hy:=hy (by omega);simp only[cur]at e3;have hwy:IntKind.wrap .i64 (y - 1)=y - 1:=AC (by omega) (by omega);refine⟨⟨y - 1,up,pr,im,⟨ge,bi,fi,ol,he,la⟩,⟨sa,sb⟩,co,sy,cp,wa⟩,c3,⟨⟨s1,s2,s3,s4,s5,s6,s7⟩,n9⟩,k3,sK p87 ?_⟩;simp (maxSteps:=9999999) [p87,  e1,e2,e3,x9,hwy]
 refine⟨⟨id,up,pr,im,⟨ge,bi,fi,ol,he,la⟩,⟨sa,sb⟩,co,sy,cp,wa⟩,c2,⟨⟨s1,s2,s3,s4,s5,s6,s7⟩,n9⟩,k2,sK p87 ?_⟩;simp (maxSteps:=9999999) [p87,  e1,e2,x0,x1,x2,x3,x4,x5,x6,x7,x8,x9]
structure DW (w:AB):Prop where
 S:wS w
 n3:w.nodes.length=3
 cp: ∀x∈w.nodes,x.copies.length=3
 net:w.net.length<=1000
 log:w.log.length<=2000
 safe:w.safe.length<=2000
theorem DR.D {w:AB} (h:DR w):DW w:=⟨h.S,h.n3,h.cp,by have:=h.net;omega,by have:=(A9 h.ok h.S).log;omega,by have:=(A9 h.ok h.S).safe;omega⟩
theorem S8 {w:AB} (h:DW w) (k:Nat) {n:AE} (hn:nD n):DW {w with nodes:=w.nodes.set k n}:=
 ⟨⟨by simp only[List.length_set];exact h.S.nodes,λx hx=>by
  rcases List.mem_or_eq_of_mem_set hx with hx|rfl
  ·exact h.S.node x hx
  ·exact hn.S,h.S.net,h.S.wire,h.S.log,h.S.safe⟩,by simp only[List.length_set];exact h.n3,λx hx=>by
  rcases List.mem_or_eq_of_mem_set hx with hx|rfl
  ·exact h.cp x hx
  ·exact hn.copies,h.net,h.log,h.safe⟩
theorem To [PKI] (b:LI) (c:Nat×Int) (hb:byt b) (hc:c.1<=b.length): ∃w c',DW w/\c'.1<=b.length/\sG 47 [.pm (cur b c)]=some ⟨[.a (AA (fWo w))],[],[cur b c']⟩:=by
 obtain⟨w,c1,hw,k1,e1⟩:=HV b c hb hc;obtain⟨x,c2,hx,_,k2,e2⟩:=AO b c1 20 hb k1 (by omega);have hD:=hw.D;have hI:=A9 hw.ok hw.S;have i1:=hI.net;have i2:=hI.log;have i3:=hI.safe;have hn3:=hw.n3;simp only[cur,AA,AJ,fWo]at e1 e2;by_cases x0:x=0
 ·obtain⟨y,c3,hy,_,k3,e3⟩:=AO b c2 3 hb k2 (by omega);obtain⟨k,rfl,hk⟩:=FM hy (by omega);obtain⟨n,c4,hn,k4,e4⟩:=VX b c3 hb k3;simp only[cur,AA,AJ,fN]at e3 e4;have hkl:k<w.nodes.length:=by omega
  refine⟨{w with nodes:=w.nodes.set k n},c4,S8 hD k hn,k4,sK p47 ?_⟩;simp (maxSteps:=9999999) [p47,  e1,e2,e3,e4,x0,hkl]
 by_cases x1:x=1
 ·obtain⟨y,c3,hy,_,k3,e3⟩:=AO b c2 3 hb k2 (by omega);obtain⟨z,c4,hz,_,k4,e4⟩:=AO b c3 4 hb k3 (by omega);have hz:=hz (by omega);obtain⟨m,c5,hm,k5,e5⟩:=OS b c4 hb k4;have e6:=DP m (by omega);have hl:=DN m;have hby:=Eo m;simp only[cur,AA,AJ,AD,lent,fMs]at e3 e4 e5 e6;have hwz:IntKind.wrap .i64 (z - 1)=z - 1:=AC (by omega) (by omega);generalize Av m=mb at*;have gs:(w.net.length+1)*40<=35184372088832:=by omega
  have happ:enc fW w.net++[[T.sc (I6 y),T.sc (I6 (z - 1)),T.sl 1 (enc fU mb)]]=enc fW (w.net++[⟨y,z - 1,mb⟩]):=AU fW w.net [⟨y,z - 1,mb⟩];refine⟨{w with net:=w.net++[⟨y,z - 1,mb⟩]},c5,⟨⟨hw.S.nodes,hw.S.node,by simp;omega,λq hq=> ?_,hw.S.log,hw.S.safe⟩,hn3,hw.cp,by simp;omega,hD.log,hD.safe⟩,k5,sK p47 ?_⟩
  ·rcases List.mem_append.1 hq with hq|hq
   ·exact hw.S.wire q hq
   ·rw[List.mem_singleton.1 hq];exact⟨by simp only;omega,hby⟩
  simp (maxSteps:=9999999) [p47,  e1,e2,e3,e4,e5,e6,x1,hwz,gs,happ]
 by_cases x2:x=2
 ·obtain⟨y,c3,hy,_,k3,e3⟩:=AO b c2 10 hb k2 (by omega);have hy:=hy (by omega);obtain⟨z,c4,hz,_,k4,e4⟩:=AO b c3 5 hb k3 (by omega);simp only[cur]at e3 e4;have hwz:IntKind.wrap .i64 (y - 1)=y - 1:=AC (by omega) (by omega);have gs:(w.log.length+1)*16<=35184372088832:=by omega
  have happ:enc fR w.log++[[T.sc (I6 (y - 1)),T.sc (I6 z)]]=enc fR (w.log++[⟨y - 1,z⟩]):=AU fR w.log [⟨y - 1,z⟩];refine⟨{w with log:=w.log++[⟨y - 1,z⟩]},c4,⟨⟨hw.S.nodes,hw.S.node,hw.S.net,hw.S.wire,by simp;omega,hw.S.safe⟩,hn3,hw.cp,hD.net,by simp;omega,hD.safe⟩,k4,sK p47 ?_⟩;simp (maxSteps:=9999999) [p47,  e1,e2,e3,e4,x2,hwz,gs,happ]
 by_cases x3:x=3
 ·obtain⟨y,c3,hy,_,k3,e3⟩:=AO b c2 9 hb k2 (by omega);simp only[cur]at e3;have gs:(w.safe.length+1)*8<=35184372088832:=by omega
  have happ:enc fI w.safe++[[T.sc (I6 y)]]=enc fI (w.safe++[y]):=AU fI w.safe [y];refine⟨{w with safe:=w.safe++[y]},c3,⟨⟨hw.S.nodes,hw.S.node,hw.S.net,hw.S.wire,hw.S.log,by simp;omega⟩,hn3,hw.cp,hD.net,hD.log,by simp;omega⟩,k3,sK p47 ?_⟩;simp (maxSteps:=9999999) [p47,  e1,e2,e3,x3,gs,happ]
 by_cases x4:x=4
 ·obtain⟨y,c3,hy,k3,e3⟩:=Bw b c2 [1,2,100000,100001] hb k2 (by simp) (by simp);simp only[cur,BN,BA,fI]at e3;refine⟨{w with gen:=y},c3,⟨⟨hw.S.nodes,hw.S.node,hw.S.net,hw.S.wire,hw.S.log,hw.S.safe⟩,hn3,hw.cp,hD.net,hD.log,hD.safe⟩,k3,sK p47 ?_⟩;simp (maxSteps:=9999999) [p47,  e1,e2,e3,x4]
 by_cases x5:x=5
 ·obtain⟨n,hn⟩:=AF (l:=w.nodes) (i:=0) (by omega);obtain⟨hkl,hn'⟩:=BT hn;have hm:=List.mem_of_getElem? hn;have hnb:=(hI.node n hm).b;have hwl:IntKind.wrap .i64 ((w.log.length:Int)+1)=w.log.length+1:=AC (by omega) (by omega);obtain⟨y,c3,hy,_,k3,e3⟩:=AO b c2 (w.log.length+1) hb k2 (by omega);have e4:=Mh n.image 1 y (by have:=hnb.image;omega);have hpl:=Le n.image 1 y;simp only[cur]at e3;generalize FC n.image 1 y=im at*;refine⟨{w with nodes:=w.nodes.set 0 {n with image:=im}},c3,S8 hD 0 ⟨⟨by simp only;rw[hpl];exact hnb.nS.image,hnb.nS.mt,hnb.nS.sl,hnb.nS.conn,hnb.nS.sync,hnb.nS.copies,hnb.nS.wait⟩,hnb.copies⟩,k3,sK p47 ?_⟩;simp (maxSteps:=9999999) [p47,  e1,e2,e3,e4,x5,hwl,hkl,hn,hn']
 by_cases x6:x=6
 ·obtain⟨n,hn⟩:=AF (l:=w.nodes) (i:=1) (by omega);obtain⟨hkl,hn'⟩:=BT hn;have hm:=List.mem_of_getElem? hn;have hnb:=(hI.node n hm).b;have e4:=Cp n.sl {n.mt with fine:= !n.mt.fine} hnb.sl hnb.mt;have hsp:=CZ hnb.sl {n.mt with fine:= !n.mt.fine};simp only[AD,lent,AA,AJ,fM,fSl]at e4;generalize Br n.sl {n.mt with fine:= !n.mt.fine}=sp at*;refine⟨{w with nodes:=w.nodes.set 1 {n with mt:={n.mt with fine:= !n.mt.fine},sl:=sp}},c2,S8 hD 1 ⟨⟨hnb.nS.image,hnb.nS.mt,hsp,hnb.nS.conn,hnb.nS.sync,hnb.nS.copies,hnb.nS.wait⟩,hnb.copies⟩,k2,sK p47 ?_⟩;simp (maxSteps:=9999999) [p47,  e1,e2,e4,x6,hkl,hn,hn']
 refine⟨w,c2,hD,k2,sK p47 ?_⟩;simp (maxSteps:=9999999) [p47,  e1,e2,x0,x1,x2,x3,x4,x5,x6]
end Go.Proofs.YtghgecpicnfgpaaGreat.Ow
