/- Right images, marks, generations: evaluated. -/
import Derived.Test.YtghgecpicnfgpaaGreatEv0
namespace Go.Proofs.YtghgecpicnfgpaaGreat.Ow
open Go
set_option linter.unusedVariables false
set_option linter.unusedSimpArgs false
set_option maxHeartbeats 4000000
def Ac (p:Nat->Bool) (n:Nat):Bool:=(List.range n).all p
theorem BJ {p:Nat->Bool} {n:Nat} (h: ∀j,j<n->p j=true):Ac p n=true:=by unfold Ac;rw[List.all_eq_true];exact λx hx=>h x (List.mem_range.1 hx)
theorem CT {p:Nat->Bool} {n k:Nat} (hk:k<n) (h:p k=false):Ac p n=false:=by
 unfold Ac;rw[List.all_eq_false];exact⟨k,List.mem_range.2 hk,by simp[h]⟩
theorem BP {α:Type} {l:List α} {j:Nat} {x d:α} (h:l[j]? =some x):l.getD j d=x:=by simp[List.getD_eq_getElem?_getD,h]
def FE (l:LI):Bool:=Ac (λj=>inB (l.getD j 0) 0 200) l.length&&((l.length:Int)==8)
def mkP (l:LI) (j:Nat):Bool:=inB (l.getD j 0) 0 7&&(decide (j=0)||decide (l.getD (j - 1) 0<l.getD j 0))
def Dg (l:LI):Bool:=Ac (mkP l) l.length
def gnP (l:LI) (j:Nat):Bool:=inB (l.getD j 0) 1 100000&& !decide (l.getD j 0∈l.take j)
def Dj (l:LI):Bool:=Ac (gnP l) l.length&&decide ((l.length:Int)<=12)
theorem AK (l:LI) {j:Nat} (h:j<l.length): ∃ (x:Int) (hj:j<l.length),l[j]? =some x/\l[j]=x/\l.getD j 0=x:=⟨l[j],h,List.getElem?_eq_getElem h,rfl,by simp[List.getD_eq_getElem?_getD,h]⟩
@[simp] def st79 (l:LI) (j:Nat):St:={n:=19,m:=0,tm:=[(0,.im 1 (enc fI l)),(3,.sc (I6 j))],ob:=[]}
theorem Mx [PKI] (l:LI) (hl:l.length<=1048576):sG 79 [.v (.im 1 (enc fI l))]=some ⟨[.v (.sc (.bool (FE l)))],[],[]⟩:=by
 refine sK p79 ?_;obtain⟨k,hk,hp,hkn⟩:=first (λj=>(inB (l.getD j 0) 0 200)=true) l.length;have hstep: ∀j,j<k-> ∃s',xG b79_0 (st79 l j)=some (.normal,s')/\s'.m<=10000000/\Aa 10000000 [0,3] s'=st79 l (j+1):=λj hj=>by
  have hlt:j<l.length:=by omega
  have h1:(inB (l.getD j 0) 0 200)=true:=hp j hj;obtain⟨x,_,hx,hx',hd⟩:=AK l (j:=j) (by omega);rw[hd]at h1;have e:=Ao x 0 200;rw[h1]at e;simp[b79_0,  hlt,Ar hlt hl,hx',e]
 rcases hkn with rfl|⟨hlt,hn⟩
 ·have hsz:= @lok _ 10000000 [0,3] b79_0 (st79 l) (l.length) hstep (by simp[b79_0,  ]);have hr:(FE l)=((l.length:Int)==8):=by unfold FE;rw[BJ hp];rfl
  rw[hr];simp[p79,  ];rw[hsz]
  ·simp[b79_0,  ]
  ·simp
  ·simp
 ·have h0:(inB (l.getD k 0) 0 200)=false:=by simpa using hn
  have h1:=h0;have hr:(FE l)=false:=by unfold FE;rw[CT hlt h0];rfl
  rw[hr];obtain⟨x,_,hx,hx',hd⟩:=AK l (j:=k) (by omega);rw[hd]at h1;have e:=Ao x 0 200;rw[h1]at e;have hsz:= @lok _ 10000000 [0,3] b79_0 (st79 l) (k) hstep (by simp[b79_0,  hlt,hx',e]);simp[p79,  ];rw[hsz]
  ·simp[b79_0,  hlt,hx',e]
  ·simp
  ·simp
theorem Mj [PKI] (x:Int):sG 119 [.v (.sc (I6 x))]=some ⟨[.v (.sc (.bool (!inB x 0 200)))],[],[]⟩:=by
 refine sK p119 ?_;have e:=BF x 0 200;simp[p119,  e]
def SO (p:Nat->Bool):Nat->Nat->Int
 |0,_=> -1
 |f+1,k=>if p k then SO p f (k+1)else k
def FL (p:Nat->Bool) (n:Nat):Int:=SO p n 0
theorem Lz {p:Nat->Bool} {n:Nat}: ∀k,k<=n->(∀j,j<k->p j=true)->FL p n=SO p (n - k) k
 |0,_,_=>rfl
 |k+1,h,hp=>by
  rw[Lz k (by omega) (λj hj=>hp j (by omega)),show n - k=n - (k+1)+1 by omega,SO,if_pos (hp k (by omega))]
theorem CJ {p:Nat->Bool} {n:Nat} (h: ∀j,j<n->p j=true):FL p n= -1:=by rw[Lz n (Nat.le_refl _) h,Nat.sub_self];rfl
theorem BX {p:Nat->Bool} {n k:Nat} (hk:k<n) (hp: ∀j,j<k->p j=true) (h:p k=false):FL p n=k:=by
 rw[Lz k (by omega) hp,show n - k=n - k - 1+1 by omega,SO,h];rfl
theorem Gj (p:Nat->Bool) (n:Nat):decide (FL p n ≥ 0)= !Ac p n:=by
 obtain⟨k,hk,hp,hkn⟩:=first (λj=>p j=true) n;rcases hkn with rfl|⟨hlt,hn⟩
 ·rw[CJ hp,BJ hp];rfl
 ·have hn':p k=false:=by simpa using hn
  rw[BX hlt hp hn',CT hlt hn'];simp
@[simp] def st94 (l:LI) (j:Nat):St:={n:=19,m:=0,tm:=[(0,.im 1 (enc fI l)),(1,.clo 119 []),(7,.sc (I6 l.length)),(8,.sc (I6 j))],ob:=[]}
theorem RM [PKI] (l:LI) (hl:l.length<=1048576):sG 94 [.v (.im 1 (enc fI l)),.c 119 []]=some ⟨[.v (.sc (I6 (FL (λj=>inB (l.getD j 0) 0 200) l.length)))],[],[]⟩:=by
 refine sK p94 ?_;obtain⟨k,hk,hp,hkn⟩:=first (λj=>(inB (l.getD j 0) 0 200)=true) l.length;have hstep: ∀j,j<k-> ∃s',xG b94_0 (st94 l j)=some (.normal,s')/\s'.m<=10000000/\Aa 10000000 [0,1,7,8] s'=st94 l (j+1):=λj hj=>by
  have hlt:j<l.length:=by omega
  have h1:(inB (l.getD j 0) 0 200)=true:=hp j hj;obtain⟨x,_,hx,hx',hd⟩:=AK l (j:=j) (by omega);rw[hd]at h1;have e:=Mj x;rw[h1]at e;simp only[Bool.not_true,Bool.not_false]at e;simp[b94_0,  hlt,Ar hlt hl,hx',e]
 rcases hkn with rfl|⟨hlt,hn⟩
 ·have hsz:= @lok _ 10000000 [0,1,7,8] b94_0 (st94 l) (l.length) hstep (by simp[b94_0,  ]);have hr:(FL (λj=>inB (l.getD j 0) 0 200) l.length)= -1:=CJ hp;rw[hr];simp[p94,  ];rw[hsz]
  ·simp[b94_0,  ]
  ·simp
  ·simp
 ·have h0:(inB (l.getD k 0) 0 200)=false:=by simpa using hn
  have h1:=h0;have hr:(FL (λj=>inB (l.getD j 0) 0 200) l.length)=k:=BX hlt hp h0;rw[hr];obtain⟨x,_,hx,hx',hd⟩:=AK l (j:=k) (by omega);rw[hd]at h1;have e:=Mj x;rw[h1]at e;simp only[Bool.not_true,Bool.not_false]at e;have hsz:= @lok _ 10000000 [0,1,7,8] b94_0 (st94 l) (k) hstep (by simp[b94_0,  hlt,hx',e]);simp[p94,  ];rw[hsz]
  ·simp[b94_0,  hlt,hx',e]
  ·simp
  ·simp
theorem M5 [PKI] (l:LI) (hl:l.length<=1048576):sG 99 [.v (.im 1 (enc fI l)),.c 119 []]=some ⟨[.v (.sc (.bool (!Ac (λj=>inB (l.getD j 0) 0 200) l.length)))],[],[]⟩:=by
 refine sK p99 ?_;have e:=RM l hl;rw[<-Gj];simp[p99,  e]
theorem M3 [PKI] (l:LI) (hl:l.length<=1048576):sG 72 [.v (.im 1 (enc fI l))]=some ⟨[.v (.sc (.bool (FE l)))],[],[]⟩:=by
 refine sK p72 ?_;have e:=M5 l hl;unfold FE;by_cases h:(l.length:Int)=8
 ·simp[p72,  e,h]
 ·simp[p72,  e,h]
theorem C6:IntKind.wrap .i64 1=1:=rfl
theorem Cd [PKI] (x:Int):sG 61 [.v (.sc (I6 x))]=some ⟨[.v (.sc (.bool (inB x 0 7)))],[],[]⟩:=by
 refine sK p61 ?_;have e:=BF x 0 7;simp[p61,  e]
@[simp] def st126 (l:LI) (j:Nat):St:={n:=32,m:=0,tm:=[(0,.im 1 (enc fI l)),(3,.sc (I6 j))],ob:=[]}
theorem E6 [PKI] (l : LI) (hl : l.length <= 1048576) : sG 126 [.v (.im 1 (enc fI l))] = some ⟨[.v (.sc (.bool (Dg l)))], [], []⟩ := by
  refine sK p126 ?_;obtain ⟨k, hk, hp, hkn⟩ := first (λj => (mkP l j) = true) l.length;have hstep : ∀ j, j < k -> ∃ s', xG b126_0 (st126 l j) = some (.normal, s') /\ s'.m <= 10000000 /\ Aa 10000000 [0, 3] s' = st126 l (j + 1) := λj hj => by
    have hlt : j < l.length := by omega
    have h1 : (mkP l j) = true := hp j hj;rcases Nat.eq_zero_or_pos j with hz | hz
    · subst hz
      obtain ⟨x, _, hx, hx', hd⟩ := AK l (j := 0) (by omega)
      have e := Ao x 0 7
      unfold mkP at h1
      rw [hd] at h1
      generalize hB : inB x 0 7 = B at e h1
      have hyx : True := trivial
      cases B <;> (try by_cases hyx2 : x <= y)
      all_goals first
        | (exfalso; revert h1; simp [*] <;> omega; done)
        | (simp [b126_0,  hlt, Ar hlt hl, hx', e, C6])
    · have hz0 : ¬ j = 0 := by omega
      obtain ⟨x, _, hx, hx', hd⟩ := AK l (j := j) (by omega)
      have e := Ao x 0 7
      unfold mkP at h1
      rw [hd] at h1
      obtain ⟨y, _, hy, hy', hd2⟩ := AK l (j := j - 1) (by omega)
      rw [hd2] at h1
      have hsub : IntKind.wrap .i64 ((j : Int) - 1) = ((j - 1 : Nat) : Int) := by rw [AC (by omega) (by omega)]; omega
      have hz2 : (0 : Int) < j := by omega
      have hj1 : j - 1 < l.length := by omega
      generalize hB : inB x 0 7 = B at e h1
      cases B <;> (try by_cases hyx2 : x <= y)
      all_goals first
        | (exfalso; revert h1; simp [*] <;> omega; done)
        | (simp [b126_0,  hlt, Ar hlt hl, hx', e, hy', hsub, hz2, hj1, hz0, hz, hyx2])
  rcases hkn with rfl | ⟨hlt, hn⟩
  · have hsz := @lok _ 10000000 [0, 3] b126_0 (st126 l) (l.length) hstep (by simp [b126_0,  ])
    have hr : (Dg l) = true := BJ hp
    rw [hr]
    simp [p126,  ]
    rw [hsz]
    · simp [b126_0,  ]
    · simp
    · simp
  · have h0 : (mkP l k) = false := by simpa using hn
    have h1 := h0
    have hr : (Dg l) = false := CT hlt h0
    rw [hr]
    rcases Nat.eq_zero_or_pos k with hz | hz
    · subst hz
      obtain ⟨x, _, hx, hx', hd⟩ := AK l (j := 0) (by omega)
      have e := Ao x 0 7
      unfold mkP at h1
      rw [hd] at h1
      generalize hB : inB x 0 7 = B at e h1
      have hyx : True := trivial
      cases B <;> (try by_cases hyx2 : x <= y)
      all_goals first
        | (exfalso; revert h1; simp [*] <;> omega; done)
        | (have hsz := @lok _ 10000000 [0, 3] b126_0 (st126 l) (0) hstep (by simp [b126_0,  hlt, hx', e, C6])
           simp [p126,  ]
           rw [hsz]
           · simp [b126_0,  hlt, hx', e, C6]
           · simp
           · simp)
    · have hz0 : ¬ k = 0 := by omega
      obtain ⟨x, _, hx, hx', hd⟩ := AK l (j := k) (by omega)
      have e := Ao x 0 7
      unfold mkP at h1
      rw [hd] at h1
      obtain ⟨y, _, hy, hy', hd2⟩ := AK l (j := k - 1) (by omega)
      rw [hd2] at h1
      have hsub : IntKind.wrap .i64 ((k : Int) - 1) = ((k - 1 : Nat) : Int) := by rw [AC (by omega) (by omega)]; omega
      have hz2 : (0 : Int) < k := by omega
      have hj1 : k - 1 < l.length := by omega
      generalize hB : inB x 0 7 = B at e h1
      cases B <;> (try by_cases hyx2 : x <= y)
      all_goals first
        | (exfalso; revert h1; simp [*] <;> omega; done)
        | (have hsz := @lok _ 10000000 [0, 3] b126_0 (st126 l) (k) hstep (by simp [b126_0,  hlt, hx', e, hy', hsub, hz2, hj1, hz0, hz, hyx2])
           simp [p126,  ]
           rw [hsz]
           · simp [b126_0,  hlt, hx', e, hy', hsub, hz2, hj1, hz0, hz, hyx2]
           · simp
           · simp)
@[simp] def st123 (l:LI) (j:Nat):St:={n:=29,m:=0,tm:=[(0,.im 1 (enc fI l)),(5,.im 1 (enc fI l)),(6,.sc (I6 l.length)),(7,.sc (I6 j))],ob:=[]}
theorem M2 [PKI] (l : LI) (hl : l.length <= 1048576) : sG 123 [.v (.im 1 (enc fI l))] = some ⟨[.v (.sc (.bool (Dg l)))], [], []⟩ := by
  refine sK p123 ?_;obtain ⟨k, hk, hp, hkn⟩ := first (λj => (mkP l j) = true) l.length;have hstep : ∀ j, j < k -> ∃ s', xG b123_0 (st123 l j) = some (.normal, s') /\ s'.m <= 10000000 /\ Aa 10000000 [0, 5, 6, 7] s' = st123 l (j + 1) := λj hj => by
    have hlt : j < l.length := by omega
    have h1 : (mkP l j) = true := hp j hj;rcases Nat.eq_zero_or_pos j with hz | hz
    · subst hz
      obtain ⟨x, _, hx, hx', hd⟩ := AK l (j := 0) (by omega)
      have e := Cd x
      unfold mkP at h1
      rw [hd] at h1
      generalize hB : inB x 0 7 = B at e h1
      have hyx : True := trivial
      cases B <;> (try by_cases hyx2 : x <= y)
      all_goals first
        | (exfalso; revert h1; simp [*] <;> omega; done)
        | (simp [b123_0,  hlt, Ar hlt hl, hx', e, C6])
    · have hz0 : ¬ j = 0 := by omega
      obtain ⟨x, _, hx, hx', hd⟩ := AK l (j := j) (by omega)
      have e := Cd x
      unfold mkP at h1
      rw [hd] at h1
      obtain ⟨y, _, hy, hy', hd2⟩ := AK l (j := j - 1) (by omega)
      rw [hd2] at h1
      have hsub : IntKind.wrap .i64 ((j : Int) - 1) = ((j - 1 : Nat) : Int) := by rw [AC (by omega) (by omega)]; omega
      have hz2 : (0 : Int) < j := by omega
      have hj1 : j - 1 < l.length := by omega
      generalize hB : inB x 0 7 = B at e h1
      cases B <;> (try by_cases hyx2 : x <= y)
      all_goals first
        | (exfalso; revert h1; simp [*] <;> omega; done)
        | (simp [b123_0,  hlt, Ar hlt hl, hx', e, hy', hsub, hz2, hj1, hz0, hz, hyx2])
  rcases hkn with rfl | ⟨hlt, hn⟩
  · have hsz := @lok _ 10000000 [0, 5, 6, 7] b123_0 (st123 l) (l.length) hstep (by simp [b123_0,  ])
    have hr : (Dg l) = true := BJ hp
    rw [hr]
    simp [p123,  ]
    rw [hsz]
    · simp [b123_0,  ]
    · simp
    · simp
  · have h0 : (mkP l k) = false := by simpa using hn
    have h1 := h0
    have hr : (Dg l) = false := CT hlt h0
    rw [hr]
    rcases Nat.eq_zero_or_pos k with hz | hz
    · subst hz
      obtain ⟨x, _, hx, hx', hd⟩ := AK l (j := 0) (by omega)
      have e := Cd x
      unfold mkP at h1
      rw [hd] at h1
      generalize hB : inB x 0 7 = B at e h1
      have hyx : True := trivial
      cases B <;> (try by_cases hyx2 : x <= y)
      all_goals first
        | (exfalso; revert h1; simp [*] <;> omega; done)
        | (have hsz := @lok _ 10000000 [0, 5, 6, 7] b123_0 (st123 l) (0) hstep (by simp [b123_0,  hlt, hx', e, C6])
           simp [p123,  ]
           rw [hsz]
           · simp [b123_0,  hlt, hx', e, C6]
           · simp
           · simp)
    · have hz0 : ¬ k = 0 := by omega
      obtain ⟨x, _, hx, hx', hd⟩ := AK l (j := k) (by omega)
      have e := Cd x
      unfold mkP at h1
      rw [hd] at h1
      obtain ⟨y, _, hy, hy', hd2⟩ := AK l (j := k - 1) (by omega)
      rw [hd2] at h1
      have hsub : IntKind.wrap .i64 ((k : Int) - 1) = ((k - 1 : Nat) : Int) := by rw [AC (by omega) (by omega)]; omega
      have hz2 : (0 : Int) < k := by omega
      have hj1 : k - 1 < l.length := by omega
      generalize hB : inB x 0 7 = B at e h1
      cases B <;> (try by_cases hyx2 : x <= y)
      all_goals first
        | (exfalso; revert h1; simp [*] <;> omega; done)
        | (have hsz := @lok _ 10000000 [0, 5, 6, 7] b123_0 (st123 l) (k) hstep (by simp [b123_0,  hlt, hx', e, hy', hsub, hz2, hj1, hz0, hz, hyx2])
           simp [p123,  ]
           rw [hsz]
           · simp [b123_0,  hlt, hx', e, hy', hsub, hz2, hj1, hz0, hz, hyx2]
           · simp
           · simp)
theorem R9 {l:LI} {n:Int} (h: ∀j,j<l.length->(!decide (l.getD j 0=n))=true):decide (n∈l)=false:=by
 rw[decide_eq_false_iff_not];intro hm;obtain⟨j,hj,hx⟩:=List.getElem_of_mem hm;have:=h j hj;simp[List.getD_eq_getElem?_getD,hj,hx]at this
theorem R8 {l:LI} {n:Int} {k:Nat} (hk:k<l.length) (h:(!decide (l.getD k 0=n))=false):decide (n∈l)=true:=by
 rw[decide_eq_true_iff];have h1:l.getD k 0=n:=by simpa using h
 rw[<-h1,List.getD_eq_getElem?_getD,List.getElem?_eq_getElem hk];exact List.getElem_mem hk
theorem mem_all (l:LI) (n:Int):(!Ac (λj=> !decide (l.getD j 0=n)) l.length)=decide (n∈l):=by
 obtain⟨k,hk,hp,hkn⟩:=first (λj=>(!decide (l.getD j 0=n))=true) l.length;rcases hkn with rfl|⟨hlt,hn⟩
 ·rw[BJ hp,R9 hp];rfl
 ·have hn':(!decide (l.getD k 0=n))=false:=by simpa using hn
  rw[CT hlt hn',R8 hlt hn'];rfl
@[simp] def st46 (l:LI) (n:Int) (j:Nat):St:={n:=18,m:=0,tm:=[(0,.im 1 (enc fI l)),(1,.sc (I6 n)),(5,.sc (I6 j))],ob:=[]}
theorem Cq [PKI] (l:LI) (n:Int) (hl:l.length<=1048576):sG 46 [.v (.im 1 (enc fI l)),.v (.sc (I6 n))]=some ⟨[.v (.sc (.bool (decide (n∈l))))],[],[]⟩:=by
 refine sK p46 ?_;obtain⟨k,hk,hp,hkn⟩:=first (λj=>(!decide (l.getD j 0=n))=true) l.length;have hstep: ∀j,j<k-> ∃s',xG b46_0 (st46 l n j)=some (.normal,s')/\s'.m<=10000000/\Aa 10000000 [0,1,5] s'=st46 l n (j+1):=λj hj=>by
  have hlt:j<l.length:=by omega
  have h1:(!decide (l.getD j 0=n))=true:=hp j hj;obtain⟨x,_,hx,hx',hd⟩:=AK l (j:=j) (by omega);rw[hd]at h1;simp at h1;simp[b46_0,  hlt,Ar hlt hl,hx',h1]
 rcases hkn with rfl|⟨hlt,hn⟩
 ·have hsz:= @lok _ 10000000 [0,1,5] b46_0 (st46 l n) (l.length) hstep (by simp[b46_0,  ]);have hr:(decide (n∈l))=false:=R9 hp;rw[hr];simp[p46,  ];rw[hsz]
  ·simp[b46_0,  ]
  ·simp
  ·simp
 ·have h0:(!decide (l.getD k 0=n))=false:=by simpa using hn
  have h1:=h0;have hr:(decide (n∈l))=true:=R8 hlt h0;rw[hr];obtain⟨x,_,hx,hx',hd⟩:=AK l (j:=k) (by omega);rw[hd]at h1;simp at h1;have hsz:= @lok _ 10000000 [0,1,5] b46_0 (st46 l n) (k) hstep (by simp[b46_0,  hlt,hx',h1]);simp[p46,  ];rw[hsz]
  ·simp[b46_0,  hlt,hx',h1]
  ·simp
  ·simp
@[simp] def st85 (l:LI) (n:Int) (j:Nat):St:={n:=19,m:=0,tm:=[(0,.im 1 (enc fI l)),(1,.sc (I6 n)),(7,.sc (I6 l.length)),(8,.sc (I6 j))],ob:=[]}
theorem Xa [PKI] (l : LI) (n : Int) (hl : l.length <= 1048576) : sG 85 [.v (.im 1 (enc fI l)), .v (.sc (I6 n))] = some ⟨[.v (.sc (I6 (FL (λj => !decide (l.getD j 0 = n)) l.length)))], [], []⟩ := by
  refine sK p85 ?_;obtain ⟨k, hk, hp, hkn⟩ := first (λj => (!decide (l.getD j 0 = n)) = true) l.length;have hstep : ∀ j, j < k -> ∃ s', xG b85_0 (st85 l n j) = some (.normal, s') /\ s'.m <= 10000000 /\ Aa 10000000 [0, 1, 7, 8] s' = st85 l n (j + 1) := λj hj => by
    have hlt : j < l.length := by omega
    have h1 : (!decide (l.getD j 0 = n)) = true := hp j hj;obtain ⟨x, _, hx, hx', hd⟩ := AK l (j := j) (by omega);rw [hd] at h1;by_cases hnx : n = x
    all_goals first
      | (exfalso; revert h1; simp; omega; done)
      | (simp [b85_0,  hlt, Ar hlt hl, hx', hnx])
  rcases hkn with rfl | ⟨hlt, hn⟩
  · have hsz := @lok _ 10000000 [0, 1, 7, 8] b85_0 (st85 l n) (l.length) hstep (by simp [b85_0,  ])
    have hr : (FL (λj => !decide (l.getD j 0 = n)) l.length) = -1 := CJ hp
    rw [hr]
    simp [p85,  ]
    rw [hsz]
    · simp [b85_0,  ]
    · simp
    · simp
  · have h0 : (!decide (l.getD k 0 = n)) = false := by simpa using hn
    have h1 := h0
    have hr : (FL (λj => !decide (l.getD j 0 = n)) l.length) = k := BX hlt hp h0
    rw [hr]
    obtain ⟨x, _, hx, hx', hd⟩ := AK l (j := k) (by omega)
    rw [hd] at h1
    by_cases hnx : n = x
    all_goals first
      | (exfalso; revert h1; simp; omega; done)
      | (have hsz := @lok _ 10000000 [0, 1, 7, 8] b85_0 (st85 l n) (k) hstep (by simp [b85_0,  hlt, hx', hnx])
         simp [p85,  ]
         rw [hsz]
         · simp [b85_0,  hlt, hx', hnx]
         · simp
         · simp)
theorem BQ [PKI] (l:LI) (n:Int) (hl:l.length<=1048576):sG 45 [.v (.im 1 (enc fI l)),.v (.sc (I6 n))]=some ⟨[.v (.sc (.bool (decide (n∈l))))],[],[]⟩:=by
 refine sK p45 ?_;have e:=Xa l n hl;rw[<-mem_all,<-Gj];simp[p45,  e]
@[simp] def st127 (l:LI) (j:Nat):St:={n:=29,m:=0,tm:=[(0,.im 1 (enc fI l)),(3,.sc (I6 j))],ob:=[]}
theorem Fe [PKI] (l : LI) (hl : l.length <= 1048576) : sG 127 [.v (.im 1 (enc fI l))] = some ⟨[.v (.sc (.bool (Dj l)))], [], []⟩ := by
  refine sK p127 ?_;obtain ⟨k, hk, hp, hkn⟩ := first (λj => (gnP l j) = true) l.length;have hstep : ∀ j, j < k -> ∃ s', xG b127_0 (st127 l j) = some (.normal, s') /\ s'.m <= 10000000 /\ Aa 10000000 [0, 3] s' = st127 l (j + 1) := λj hj => by
    have hlt : j < l.length := by omega
    have h1 : (gnP l j) = true := hp j hj;rcases Nat.eq_zero_or_pos j with hz | hz
    · subst hz
      obtain ⟨x, _, hx, hx', hd⟩ := AK l (j := 0) (by omega)
      have e := Ao x 1 100000
      have e2 := Cq (l.take 0) x (by rw [List.length_take]; omega)
      unfold gnP at h1
      rw [hd] at h1
      have hle : 0 <= l.length := by omega
      have het := Ax fI l 0
      generalize hB : inB x 1 100000 = B at e h1
      generalize hD : decide (x ∈ l.take 0) = D at e2 h1
      generalize hE : l.take 0 = L at e2 het
      cases B <;> cases D
      all_goals first
        | (exfalso; revert h1; simp; done)
        | (simp [b127_0,  hlt, Ar hlt hl, hx', e, e2, hle, het, C6])
    · have hz0 : ¬ j = 0 := by omega
      obtain ⟨x, _, hx, hx', hd⟩ := AK l (j := j) (by omega)
      have e := Ao x 1 100000
      have e2 := Cq (l.take j) x (by rw [List.length_take]; omega)
      unfold gnP at h1
      rw [hd] at h1
      have hle : j <= l.length := by omega
      have het := Ax fI l j
      generalize hB : inB x 1 100000 = B at e h1
      generalize hD : decide (x ∈ l.take j) = D at e2 h1
      generalize hE : l.take j = L at e2 het
      cases B <;> cases D
      all_goals first
        | (exfalso; revert h1; simp; done)
        | (simp [b127_0,  hlt, Ar hlt hl, hx', e, e2, hle, het, hz])
  rcases hkn with rfl | ⟨hlt, hn⟩
  · have hsz := @lok _ 10000000 [0, 3] b127_0 (st127 l) (l.length) hstep (by simp [b127_0,  ])
    have hr : (Dj l) = decide ((l.length : Int) <= 12) := by unfold Dj; rw [BJ hp]; rfl
    rw [hr]
    simp [p127,  ]
    rw [hsz]
    · simp [b127_0,  ]
    · simp
    · simp
  · have h0 : (gnP l k) = false := by simpa using hn
    have h1 := h0
    have hr : (Dj l) = false := by unfold Dj; rw [CT hlt h0]; rfl
    rw [hr]
    rcases Nat.eq_zero_or_pos k with hz | hz
    · subst hz
      obtain ⟨x, _, hx, hx', hd⟩ := AK l (j := 0) (by omega)
      have e := Ao x 1 100000
      have e2 := Cq (l.take 0) x (by rw [List.length_take]; omega)
      unfold gnP at h1
      rw [hd] at h1
      have hle : 0 <= l.length := by omega
      have het := Ax fI l 0
      generalize hB : inB x 1 100000 = B at e h1
      generalize hD : decide (x ∈ l.take 0) = D at e2 h1
      generalize hE : l.take 0 = L at e2 het
      cases B <;> cases D
      all_goals first
        | (exfalso; revert h1; simp; done)
        | (have hsz := @lok _ 10000000 [0, 3] b127_0 (st127 l) (0) hstep (by simp [b127_0,  hlt, hx', e, e2, hle, het, C6])
           simp [p127,  ]
           rw [hsz]
           · simp [b127_0,  hlt, hx', e, e2, hle, het, C6]
           · simp
           · simp)
    · have hz0 : ¬ k = 0 := by omega
      obtain ⟨x, _, hx, hx', hd⟩ := AK l (j := k) (by omega)
      have e := Ao x 1 100000
      have e2 := Cq (l.take k) x (by rw [List.length_take]; omega)
      unfold gnP at h1
      rw [hd] at h1
      have hle : k <= l.length := by omega
      have het := Ax fI l k
      generalize hB : inB x 1 100000 = B at e h1
      generalize hD : decide (x ∈ l.take k) = D at e2 h1
      generalize hE : l.take k = L at e2 het
      cases B <;> cases D
      all_goals first
        | (exfalso; revert h1; simp; done)
        | (have hsz := @lok _ 10000000 [0, 3] b127_0 (st127 l) (k) hstep (by simp [b127_0,  hlt, hx', e, e2, hle, het, hz])
           simp [p127,  ]
           rw [hsz]
           · simp [b127_0,  hlt, hx', e, e2, hle, het, hz]
           · simp
           · simp)
@[simp] def st120 (l:LI) (j:Nat):St:={n:=26,m:=0,tm:=[(0,.im 1 (enc fI l)),(5,.im 1 (enc fI l)),(6,.sc (I6 l.length)),(7,.sc (I6 j))],ob:=[]}
theorem Ff [PKI] (l : LI) (hl : l.length <= 1048576) : sG 120 [.v (.im 1 (enc fI l))] = some ⟨[.v (.sc (.bool (Dj l)))], [], []⟩ := by
  refine sK p120 ?_;obtain ⟨k, hk, hp, hkn⟩ := first (λj => (gnP l j) = true) l.length;have hstep : ∀ j, j < k -> ∃ s', xG b120_0 (st120 l j) = some (.normal, s') /\ s'.m <= 10000000 /\ Aa 10000000 [0, 5, 6, 7] s' = st120 l (j + 1) := λj hj => by
    have hlt : j < l.length := by omega
    have h1 : (gnP l j) = true := hp j hj;rcases Nat.eq_zero_or_pos j with hz | hz
    · subst hz
      obtain ⟨x, _, hx, hx', hd⟩ := AK l (j := 0) (by omega)
      have e := BF x 1 100000
      have e2 := BQ (l.take 0) x (by rw [List.length_take]; omega)
      unfold gnP at h1
      rw [hd] at h1
      have hle : 0 <= l.length := by omega
      have het := Ax fI l 0
      generalize hB : inB x 1 100000 = B at e h1
      generalize hD : decide (x ∈ l.take 0) = D at e2 h1
      generalize hE : l.take 0 = L at e2 het
      cases B <;> cases D
      all_goals first
        | (exfalso; revert h1; simp; done)
        | (simp [b120_0,  hlt, Ar hlt hl, hx', e, e2, hle, het, C6])
    · have hz0 : ¬ j = 0 := by omega
      obtain ⟨x, _, hx, hx', hd⟩ := AK l (j := j) (by omega)
      have e := BF x 1 100000
      have e2 := BQ (l.take j) x (by rw [List.length_take]; omega)
      unfold gnP at h1
      rw [hd] at h1
      have hle : j <= l.length := by omega
      have het := Ax fI l j
      generalize hB : inB x 1 100000 = B at e h1
      generalize hD : decide (x ∈ l.take j) = D at e2 h1
      generalize hE : l.take j = L at e2 het
      cases B <;> cases D
      all_goals first
        | (exfalso; revert h1; simp; done)
        | (simp [b120_0,  hlt, Ar hlt hl, hx', e, e2, hle, het, hz])
  rcases hkn with rfl | ⟨hlt, hn⟩
  · have hsz := @lok _ 10000000 [0, 5, 6, 7] b120_0 (st120 l) (l.length) hstep (by simp [b120_0,  ])
    have hr : (Dj l) = decide ((l.length : Int) <= 12) := by unfold Dj; rw [BJ hp]; rfl
    rw [hr]
    simp [p120,  ]
    rw [hsz]
    · simp [b120_0,  ]
    · simp
    · simp
  · have h0 : (gnP l k) = false := by simpa using hn
    have h1 := h0
    have hr : (Dj l) = false := by unfold Dj; rw [CT hlt h0]; rfl
    rw [hr]
    rcases Nat.eq_zero_or_pos k with hz | hz
    · subst hz
      obtain ⟨x, _, hx, hx', hd⟩ := AK l (j := 0) (by omega)
      have e := BF x 1 100000
      have e2 := BQ (l.take 0) x (by rw [List.length_take]; omega)
      unfold gnP at h1
      rw [hd] at h1
      have hle : 0 <= l.length := by omega
      have het := Ax fI l 0
      generalize hB : inB x 1 100000 = B at e h1
      generalize hD : decide (x ∈ l.take 0) = D at e2 h1
      generalize hE : l.take 0 = L at e2 het
      cases B <;> cases D
      all_goals first
        | (exfalso; revert h1; simp; done)
        | (have hsz := @lok _ 10000000 [0, 5, 6, 7] b120_0 (st120 l) (0) hstep (by simp [b120_0,  hlt, hx', e, e2, hle, het, C6])
           simp [p120,  ]
           rw [hsz]
           · simp [b120_0,  hlt, hx', e, e2, hle, het, C6]
           · simp
           · simp)
    · have hz0 : ¬ k = 0 := by omega
      obtain ⟨x, _, hx, hx', hd⟩ := AK l (j := k) (by omega)
      have e := BF x 1 100000
      have e2 := BQ (l.take k) x (by rw [List.length_take]; omega)
      unfold gnP at h1
      rw [hd] at h1
      have hle : k <= l.length := by omega
      have het := Ax fI l k
      generalize hB : inB x 1 100000 = B at e h1
      generalize hD : decide (x ∈ l.take k) = D at e2 h1
      generalize hE : l.take k = L at e2 het
      cases B <;> cases D
      all_goals first
        | (exfalso; revert h1; simp; done)
        | (have hsz := @lok _ 10000000 [0, 5, 6, 7] b120_0 (st120 l) (k) hstep (by simp [b120_0,  hlt, hx', e, e2, hle, het, hz])
           simp [p120,  ]
           rw [hsz]
           · simp [b120_0,  hlt, hx', e, e2, hle, het, hz]
           · simp
           · simp)
def ER (ll:List LI):Bool:=Ac (λj=>Dg (ll.getD j [])) ll.length
def lls (ll:List LI):Prop:=ll.length<=1048576/\ ∀x∈ll,x.length<=1048576
def BU (m:Ay):Bool:=Dj m.gens&&decide ((m.gens.length:Int)>0)&&(((m.bits.length:Int)==3)&&ER m.bits)&&inB m.last 0 200&& !(m.old&&m.held)
def mtS (m:Ay):Prop:=m.gens.length<=1048576/\lls m.bits
theorem Ah (l:List LI) {j:Nat} (h:j<l.length): ∃ (x:LI) (hj:j<l.length),l[j]? =some x/\l[j]=x/\l.getD j []=x/\x∈l:=⟨l[j],h,List.getElem?_eq_getElem h,rfl,by simp[List.getD_eq_getElem?_getD,h],List.getElem_mem h⟩
theorem Kz [PKI] (l:LI) (hl:l.length<=1048576):sG 122 [.v (.im 1 (enc fI l))]=some ⟨[.v (.sc (.bool (!Dg l)))],[],[]⟩:=by
 refine sK p122 ?_;have e:=M2 l hl;simp[p122,  e]
@[simp] def st179 (ll:List LI) (j:Nat):St:={n:=19,m:=0,tm:=[(0,.im 1 (enc fII ll)),(1,.clo 122 []),(7,.sc (I6 ll.length)),(8,.sc (I6 j))],ob:=[]}
theorem PY [PKI] (ll:List LI) (hl:lls ll):sG 179 [.v (.im 1 (enc fII ll)),.c 122 []]=some ⟨[.v (.sc (I6 (FL (λj=>Dg (ll.getD j [])) ll.length)))],[],[]⟩:=by
 refine sK p179 ?_;obtain⟨k,hk,hp,hkn⟩:=first (λj=>(Dg (ll.getD j []))=true) ll.length;have hstep: ∀j,j<k-> ∃s',xG b179_0 (st179 ll j)=some (.normal,s')/\s'.m<=10000000/\Aa 10000000 [0,1,7,8] s'=st179 ll (j+1):=λj hj=>by
  have hlt:j<ll.length:=by omega
  have h1:(Dg (ll.getD j []))=true:=hp j hj;obtain⟨x,_,hx,hx',hd,hm⟩:=Ah ll (j:=j) (by omega);rw[hd]at h1;have e:=Kz x (hl.2 x hm);rw[h1]at e;simp only[Bool.not_true,Bool.not_false]at e;simp[b179_0,  hlt,Ar hlt hl.1,hx',e]
 rcases hkn with rfl|⟨hlt,hn⟩
 ·have hsz:= @lok _ 10000000 [0,1,7,8] b179_0 (st179 ll) (ll.length) hstep (by simp[b179_0,  ]);have hr:(FL (λj=>Dg (ll.getD j [])) ll.length)=(-1):=CJ hp;rw[hr];simp[p179,  ];rw[hsz]
  ·simp[b179_0,  ]
  ·simp
  ·simp
 ·have h0:(Dg (ll.getD k []))=false:=by simpa using hn
  have h1:=h0;have hr:(FL (λj=>Dg (ll.getD j [])) ll.length)=k:=BX hlt hp h0;rw[hr];obtain⟨x,_,hx,hx',hd,hm⟩:=Ah ll (j:=k) (by omega);rw[hd]at h1;have e:=Kz x (hl.2 x hm);rw[h1]at e;simp only[Bool.not_true,Bool.not_false]at e;have hsz:= @lok _ 10000000 [0,1,7,8] b179_0 (st179 ll) (k) hstep (by simp[b179_0,  hlt,hx',e]);simp[p179,  ];rw[hsz]
  ·simp[b179_0,  hlt,hx',e]
  ·simp
  ·simp
theorem MC [PKI] (ll:List LI) (hl:lls ll):sG 121 [.v (.im 1 (enc fII ll)),.c 122 []]=some ⟨[.v (.sc (.bool (!ER ll)))],[],[]⟩:=by
 refine sK p121 ?_;have e:=PY ll hl;unfold ER;rw[<-Gj];simp[p121,  e]
theorem Mi [PKI] (ll:List LI) (hl:lls ll):sG 74 [.v (.im 1 (enc fII ll))]=some ⟨[.v (.sc (.bool (((ll.length:Int)==3)&&ER ll)))],[],[]⟩:=by
 refine sK p74 ?_;have e:=MC ll hl;by_cases h:(ll.length:Int)=3
 ·simp[p74,  e,h]
 ·simp[p74,  e,h]
@[simp] def Qp (m:Ay):Obj:= .box [.im 1 (enc fI m.gens),.im 1 (enc fII m.bits),.sc (.bool m.fine),.sc (.bool m.old),.sc (.bool m.held),.sc (I6 m.last)]
theorem Ce [PKI] (m:Ay) (hm:mtS m):sG 73 [.a (AD (fM m))]=some ⟨[.v (.sc (.bool (BU m)))],[],[]⟩:=by
 refine sK p73 ?_;have e1:=Ff m.gens hm.1;have e2:=Mi m.bits hm.2;have e3:=BF m.last 0 200;unfold BU;generalize Dj m.gens=b1 at e1;generalize (((m.bits.length:Int)==3)&&ER m.bits)=b2 at e2;generalize inB m.last 0 200=b3 at e3
 cases b1 with
 |false=>simp[p73,  e1]
 |true=>
  by_cases hg:0<m.gens.length
  ·cases b2 with
   |false=>simp[p73,  e1,e2,hg]
   |true=>
    cases b3 with
    |false=>simp[p73,  e1,e2,e3,hg]
    |true=>cases ho:m.old<;>simp[p73,  e1,e2,e3,hg,ho]
  ·simp[p73,  e1,hg]
@[simp] def st80 (m:Ay) (j:Nat):St:={n:=47,m:=0,tm:=[(1,.pb 10000000 0),(3,.sc (I6 j))],ob:=[(10000000,Qp m)]}
theorem DH [PKI] (m:Ay) (hm:mtS m):sG 80 [.a (AD (fM m))]=some ⟨[.v (.sc (.bool (BU m)))],[],[]⟩:=by
 refine sK p80 ?_;obtain⟨k,hk,hp,hkn⟩:=first (λj=>(Dg (m.bits.getD j []))=true) m.bits.length;have hstep: ∀j,j<k-> ∃s',xG b80_0 (st80 m j)=some (.normal,s')/\s'.m<=10000000/\Aa 10000000 [1,3] s'=st80 m (j+1):=λj hj=>by
  have hlt:j<m.bits.length:=by omega
  have h1:(Dg (m.bits.getD j []))=true:=hp j hj;obtain⟨x,_,hx,hx',hd,hmm⟩:=Ah m.bits (j:=j) (by omega);rw[hd]at h1;have e:=E6 x (hm.2.2 x hmm);rw[h1]at e;simp[b80_0,  hlt,Ar hlt hm.2.1,hx',e]
 rcases hkn with rfl|⟨hlt,hn⟩
 ·have hsz:= @lok _ 10000000 [1,3] b80_0 (st80 m) (m.bits.length) hstep (by simp[b80_0,  ]);have hr:(BU m)=(Dj m.gens&&decide ((m.gens.length:Int)>0)&&((m.bits.length:Int)==3)&&inB m.last 0 200&& !(m.old&&m.held)):=by unfold BU ER;rw[BJ hp,Bool.and_true]
  have e1:=Fe m.gens hm.1;have e3:=Ao m.last 0 200;rw[hr];simp[p80];rw[hsz]
  ·generalize Dj m.gens=b1 at e1;generalize inB m.last 0 200=b3 at e3
   cases b1 with
   |false=>simp[b80_0,  e1]
   |true=>
    by_cases hg:0<m.gens.length
    ·by_cases hb:(m.bits.length:Int)=3
     ·cases b3 with
      |false=>simp[b80_0,  e1,e3,hg,hb]
      |true=>cases ho:m.old<;>simp[b80_0,  e1,e3,hg,hb,ho]
     ·simp[b80_0,  e1,hg,hb]
    ·simp[b80_0,  e1,hg]
  ·simp
  ·simp
 ·have h0:(Dg (m.bits.getD k []))=false:=by simpa using hn
  have h1:=h0;have hr:(BU m)=false:=by unfold BU ER;rw[CT hlt h0];simp
  rw[hr];obtain⟨x,_,hx,hx',hd,hmm⟩:=Ah m.bits (j:=k) (by omega);rw[hd]at h1;have e:=E6 x (hm.2.2 x hmm);rw[h1]at e;have hsz:= @lok _ 10000000 [1,3] b80_0 (st80 m) (k) hstep (by simp[b80_0,  hlt,hx',e]);simp[p80,  ];rw[hsz]
  ·simp[b80_0,  hlt,hx',e]
  ·simp
  ·simp
end Go.Proofs.YtghgecpicnfgpaaGreat.Ow
