/- Right images, marks, generations: evaluated. -/
import Derived.Test.YtbolhfegdocpeaaGreatEv0
namespace Go.Proofs.YtbolhfegdocpeaaGreat.Ow
open Go
set_option linter.unusedVariables false
set_option linter.unusedSimpArgs false
set_option maxHeartbeats 4000000
variable {PK:Nat->List Arg->Option Res}
def Af (p:Nat->Bool) (n:Nat):Bool:=(List.range n).all p
theorem BJ {p:Nat->Bool} {n:Nat} (h: ∀j,j<n->p j=true):Af p n=true:=by unfold Af;rw[List.all_eq_true];exact fun x hx=>h x (List.mem_range.1 hx)
theorem B3 {p:Nat->Bool} {n k:Nat} (hk:k<n) (h:p k=false):Af p n=false:=by
 unfold Af;rw[List.all_eq_false];exact⟨k,List.mem_range.2 hk,by simp[h]⟩
theorem CI {α:Type} {l:List α} {j:Nat} {x d:α} (h:l[j]? =some x):l.getD j d=x:=by simp[List.getD_eq_getElem?_getD,h]
def EG (l:List Int):Bool:=Af (fun j=>inB (l.getD j 0) 0 200) l.length&&((l.length:Int)==8)
def mkP (l:List Int) (j:Nat):Bool:=inB (l.getD j 0) 0 7&&(decide (j=0)||decide (l.getD (j - 1) 0<l.getD j 0))
def C5 (l:List Int):Bool:=Af (mkP l) l.length
def gnP (l:List Int) (j:Nat):Bool:=inB (l.getD j 0) 1 100000&& !decide (l.getD j 0∈l.take j)
def De (l:List Int):Bool:=Af (gnP l) l.length&&decide ((l.length:Int)<=12)
theorem AT (l:List Int) {j:Nat} (h:j<l.length): ∃ (x:Int) (hj:j<l.length),l[j]? =some x/\l[j]=x/\l.getD j 0=x:=⟨l[j],h,List.getElem?_eq_getElem h,rfl,by simp[List.getD_eq_getElem?_getD,h]⟩
@[simp] def st130 (l:List Int) (j:Nat):St:={n:=19,m:=0,tm:=[(0,.im 1 (enc fI l)),(3,.sc (.int .i64 j))],ob:=[]}
theorem KW (l:List Int) (hl:l.length<=1048576):AH G PK md 130 [.v (.im 1 (enc fI l))]=some ⟨[.v (.sc (.bool (EG l)))],[],[]⟩:=by
 refine AA (pf:=p130) rfl (by simp[p130]) ?_;obtain⟨k,hk,hp,hkn⟩:=first (fun j=>(inB (l.getD j 0) 0 200)=true) l.length;have hstep: ∀j,j<k-> ∃s',An (AH G PK md) (Ag G PK md) md b130_0 (st130 l j)=some (.normal,s')/\s'.m<=10000000/\Ai 10000000 [0,3] s'=st130 l (j+1):=fun j hj=>by
  have hlt:j<l.length:=by omega
  have h1:(inB (l.getD j 0) 0 200)=true:=hp j hj;obtain⟨x,_,hx,hx',hd⟩:=AT l (j:=j) (by omega);rw[hd]at h1;have e:=Aj (PK:=PK) x 0 200;rw[h1]at e;simp[b130_0,md,hlt,A2 hlt hl,hx',e]
 rcases hkn with rfl|⟨hlt,hn⟩
 ·have hsz:=AL (G:=G) (PK:=PK) (md:=md) (o:=10000000) (live:=[0,3]) (c:=b130_0) (st130 l) (l.length) hstep (by simp[b130_0,md,]);have hr:(EG l)=((l.length:Int)==8):=by unfold EG;rw[BJ hp];rfl
  rw[hr];simp[p130,md,];rw[hsz]
  ·simp[b130_0,md,]
  ·simp
  ·simp
 ·have h0:(inB (l.getD k 0) 0 200)=false:=by simpa using hn
  have h1:=h0;have hr:(EG l)=false:=by unfold EG;rw[B3 hlt h0];rfl
  rw[hr];obtain⟨x,_,hx,hx',hd⟩:=AT l (j:=k) (by omega);rw[hd]at h1;have e:=Aj (PK:=PK) x 0 200;rw[h1]at e;have hsz:=AL (G:=G) (PK:=PK) (md:=md) (o:=10000000) (live:=[0,3]) (c:=b130_0) (st130 l) (k) hstep (by simp[b130_0,md,hlt,hx',e]);simp[p130,md,];rw[hsz]
  ·simp[b130_0,md,hlt,hx',e]
  ·simp
  ·simp
theorem KI (x:Int):AH G PK md 163 [.v (.sc (.int .i64 x))]=some ⟨[.v (.sc (.bool (!inB x 0 200)))],[],[]⟩:=by
 refine AA (pf:=p163) rfl (by simp[p163]) ?_;have e:=CJ (PK:=PK) x 0 200;simp[p163,md,e]
def Pm (p:Nat->Bool):Nat->Nat->Int
 |0,_=> -1
 |f+1,k=>if p k then Pm p f (k+1)else k
def Em (p:Nat->Bool) (n:Nat):Int:=Pm p n 0
theorem Ji {p:Nat->Bool} {n:Nat}: ∀k,k<=n->(∀j,j<k->p j=true)->Em p n=Pm p (n - k) k
 |0,_,_=>rfl
 |k+1,h,hp=>by
  rw[Ji k (by omega) (fun j hj=>hp j (by omega)),show n - k=n - (k+1)+1 by omega,Pm,if_pos (hp k (by omega))]
theorem CP {p:Nat->Bool} {n:Nat} (h: ∀j,j<n->p j=true):Em p n= -1:=by rw[Ji n (Nat.le_refl _) h,Nat.sub_self];rfl
theorem Bq {p:Nat->Bool} {n k:Nat} (hk:k<n) (hp: ∀j,j<k->p j=true) (h:p k=false):Em p n=k:=by
 rw[Ji k (by omega) hp,show n - k=n - k - 1+1 by omega,Pm,h];rfl
theorem I5 (p:Nat->Bool) (n:Nat):decide (Em p n ≥ 0)= !Af p n:=by
 obtain⟨k,hk,hp,hkn⟩:=first (fun j=>p j=true) n;rcases hkn with rfl|⟨hlt,hn⟩
 ·rw[CP hp,BJ hp];rfl
 ·have hn':p k=false:=by simpa using hn
  rw[Bq hlt hp hn',B3 hlt hn'];simp
@[simp] def st136 (l:List Int) (j:Nat):St:={n:=19,m:=0,tm:=[(0,.im 1 (enc fI l)),(1,.clo 163 []),(7,.sc (.int .i64 l.length)),(8,.sc (.int .i64 j))],ob:=[]}
theorem Of (l:List Int) (hl:l.length<=1048576):AH G PK md 136 [.v (.im 1 (enc fI l)),.c 163 []]=some ⟨[.v (.sc (.int .i64 (Em (fun j=>inB (l.getD j 0) 0 200) l.length)))],[],[]⟩:=by
 refine AA (pf:=p136) rfl (by simp[p136]) ?_;obtain⟨k,hk,hp,hkn⟩:=first (fun j=>(inB (l.getD j 0) 0 200)=true) l.length;have hstep: ∀j,j<k-> ∃s',An (AH G PK md) (Ag G PK md) md b136_0 (st136 l j)=some (.normal,s')/\s'.m<=10000000/\Ai 10000000 [0,1,7,8] s'=st136 l (j+1):=fun j hj=>by
  have hlt:j<l.length:=by omega
  have h1:(inB (l.getD j 0) 0 200)=true:=hp j hj;obtain⟨x,_,hx,hx',hd⟩:=AT l (j:=j) (by omega);rw[hd]at h1;have e:=KI (PK:=PK) x;rw[h1]at e;simp only[Bool.not_true,Bool.not_false]at e;simp[b136_0,md,hlt,A2 hlt hl,hx',e]
 rcases hkn with rfl|⟨hlt,hn⟩
 ·have hsz:=AL (G:=G) (PK:=PK) (md:=md) (o:=10000000) (live:=[0,1,7,8]) (c:=b136_0) (st136 l) (l.length) hstep (by simp[b136_0,md,]);have hr:(Em (fun j=>inB (l.getD j 0) 0 200) l.length)= -1:=CP hp;rw[hr];simp[p136,md,];rw[hsz]
  ·simp[b136_0,md,]
  ·simp
  ·simp
 ·have h0:(inB (l.getD k 0) 0 200)=false:=by simpa using hn
  have h1:=h0;have hr:(Em (fun j=>inB (l.getD j 0) 0 200) l.length)=k:=Bq hlt hp h0;rw[hr];obtain⟨x,_,hx,hx',hd⟩:=AT l (j:=k) (by omega);rw[hd]at h1;have e:=KI (PK:=PK) x;rw[h1]at e;simp only[Bool.not_true,Bool.not_false]at e;have hsz:=AL (G:=G) (PK:=PK) (md:=md) (o:=10000000) (live:=[0,1,7,8]) (c:=b136_0) (st136 l) (k) hstep (by simp[b136_0,md,hlt,hx',e]);simp[p136,md,];rw[hsz]
  ·simp[b136_0,md,hlt,hx',e]
  ·simp
  ·simp
theorem Ka (l:List Int) (hl:l.length<=1048576):AH G PK md 98 [.v (.im 1 (enc fI l)),.c 163 []]=some ⟨[.v (.sc (.bool (!Af (fun j=>inB (l.getD j 0) 0 200) l.length)))],[],[]⟩:=by
 refine AA (pf:=p98) rfl (by simp[p98]) ?_;have e:=Of (PK:=PK) l hl;rw[←I5];simp[p98,md,e]
theorem KZ (l:List Int) (hl:l.length<=1048576):AH G PK md 124 [.v (.im 1 (enc fI l))]=some ⟨[.v (.sc (.bool (EG l)))],[],[]⟩:=by
 refine AA (pf:=p124) rfl (by simp[p124]) ?_;have e:=Ka (PK:=PK) l hl;unfold EG;by_cases h:(l.length:Int)=8
 ·simp[p124,md,e,h]
 ·simp[p124,md,e,h]
theorem CX:IntKind.wrap .i64 1=1:=rfl
theorem FW (x:Int):AH G PK md 65 [.v (.sc (.int .i64 x))]=some ⟨[.v (.sc (.bool (inB x 0 7)))],[],[]⟩:=by
 refine AA (pf:=p65) rfl (by simp[p65]) ?_;have e:=CJ (PK:=PK) x 0 7;simp[p65,md,e]
@[simp] def st170 (l:List Int) (j:Nat):St:={n:=32,m:=0,tm:=[(0,.im 1 (enc fI l)),(3,.sc (.int .i64 j))],ob:=[]}
theorem EC (l : List Int) (hl : l.length <= 1048576) : AH G PK md 170 [.v (.im 1 (enc fI l))] = some ⟨[.v (.sc (.bool (C5 l)))], [], []⟩ := by
  refine AA (pf := p170) rfl (by simp [p170]) ?_;obtain ⟨k, hk, hp, hkn⟩ := first (fun j => (mkP l j) = true) l.length;have hstep : ∀ j, j < k -> ∃ s', An (AH G PK md) (Ag G PK md) md b170_0 (st170 l j) = some (.normal, s') /\ s'.m <= 10000000 /\ Ai 10000000 [0, 3] s' = st170 l (j + 1) := fun j hj => by
    have hlt : j < l.length := by omega
    have h1 : (mkP l j) = true := hp j hj;rcases Nat.eq_zero_or_pos j with hz | hz
    · subst hz
      obtain ⟨x, _, hx, hx', hd⟩ := AT l (j := 0) (by omega)
      have e := Aj (PK := PK) x 0 7
      unfold mkP at h1
      rw [hd] at h1
      generalize hB : inB x 0 7 = B at e h1
      have hyx : True := trivial
      cases B <;> (try by_cases hyx2 : x <= y)
      all_goals first
        | (exfalso; revert h1; simp [*] <;> omega; done)
        | (simp [b170_0, md, hlt, A2 hlt hl, hx', e, CX])
    · have hz0 : ¬ j = 0 := by omega
      obtain ⟨x, _, hx, hx', hd⟩ := AT l (j := j) (by omega)
      have e := Aj (PK := PK) x 0 7
      unfold mkP at h1
      rw [hd] at h1
      obtain ⟨y, _, hy, hy', hd2⟩ := AT l (j := j - 1) (by omega)
      rw [hd2] at h1
      have hsub : IntKind.wrap .i64 ((j : Int) - 1) = ((j - 1 : Nat) : Int) := by rw [AC (by omega) (by omega)]; omega
      have hz2 : (0 : Int) < j := by omega
      have hj1 : j - 1 < l.length := by omega
      generalize hB : inB x 0 7 = B at e h1
      cases B <;> (try by_cases hyx2 : x <= y)
      all_goals first
        | (exfalso; revert h1; simp [*] <;> omega; done)
        | (simp [b170_0, md, hlt, A2 hlt hl, hx', e, hy', hsub, hz2, hj1, hz0, hz, hyx2])
  rcases hkn with rfl | ⟨hlt, hn⟩
  · have hsz := AL (G := G) (PK := PK) (md := md) (o := 10000000) (live := [0, 3]) (c := b170_0) (st170 l) (l.length) hstep (by simp [b170_0, md, ])
    have hr : (C5 l) = true := BJ hp
    rw [hr]
    simp [p170, md, ]
    rw [hsz]
    · simp [b170_0, md, ]
    · simp
    · simp
  · have h0 : (mkP l k) = false := by simpa using hn
    have h1 := h0
    have hr : (C5 l) = false := B3 hlt h0
    rw [hr]
    rcases Nat.eq_zero_or_pos k with hz | hz
    · subst hz
      obtain ⟨x, _, hx, hx', hd⟩ := AT l (j := 0) (by omega)
      have e := Aj (PK := PK) x 0 7
      unfold mkP at h1
      rw [hd] at h1
      generalize hB : inB x 0 7 = B at e h1
      have hyx : True := trivial
      cases B <;> (try by_cases hyx2 : x <= y)
      all_goals first
        | (exfalso; revert h1; simp [*] <;> omega; done)
        | (have hsz := AL (G := G) (PK := PK) (md := md) (o := 10000000) (live := [0, 3]) (c := b170_0) (st170 l) (0) hstep (by simp [b170_0, md, hlt, hx', e, CX])
           simp [p170, md, ]
           rw [hsz]
           · simp [b170_0, md, hlt, hx', e, CX]
           · simp
           · simp)
    · have hz0 : ¬ k = 0 := by omega
      obtain ⟨x, _, hx, hx', hd⟩ := AT l (j := k) (by omega)
      have e := Aj (PK := PK) x 0 7
      unfold mkP at h1
      rw [hd] at h1
      obtain ⟨y, _, hy, hy', hd2⟩ := AT l (j := k - 1) (by omega)
      rw [hd2] at h1
      have hsub : IntKind.wrap .i64 ((k : Int) - 1) = ((k - 1 : Nat) : Int) := by rw [AC (by omega) (by omega)]; omega
      have hz2 : (0 : Int) < k := by omega
      have hj1 : k - 1 < l.length := by omega
      generalize hB : inB x 0 7 = B at e h1
      cases B <;> (try by_cases hyx2 : x <= y)
      all_goals first
        | (exfalso; revert h1; simp [*] <;> omega; done)
        | (have hsz := AL (G := G) (PK := PK) (md := md) (o := 10000000) (live := [0, 3]) (c := b170_0) (st170 l) (k) hstep (by simp [b170_0, md, hlt, hx', e, hy', hsub, hz2, hj1, hz0, hz, hyx2])
           simp [p170, md, ]
           rw [hsz]
           · simp [b170_0, md, hlt, hx', e, hy', hsub, hz2, hj1, hz0, hz, hyx2]
           · simp
           · simp)
@[simp] def st167 (l:List Int) (j:Nat):St:={n:=29,m:=0,tm:=[(0,.im 1 (enc fI l)),(5,.im 1 (enc fI l)),(6,.sc (.int .i64 l.length)),(7,.sc (.int .i64 j))],ob:=[]}
theorem KY (l : List Int) (hl : l.length <= 1048576) : AH G PK md 167 [.v (.im 1 (enc fI l))] = some ⟨[.v (.sc (.bool (C5 l)))], [], []⟩ := by
  refine AA (pf := p167) rfl (by simp [p167]) ?_;obtain ⟨k, hk, hp, hkn⟩ := first (fun j => (mkP l j) = true) l.length;have hstep : ∀ j, j < k -> ∃ s', An (AH G PK md) (Ag G PK md) md b167_0 (st167 l j) = some (.normal, s') /\ s'.m <= 10000000 /\ Ai 10000000 [0, 5, 6, 7] s' = st167 l (j + 1) := fun j hj => by
    have hlt : j < l.length := by omega
    have h1 : (mkP l j) = true := hp j hj;rcases Nat.eq_zero_or_pos j with hz | hz
    · subst hz
      obtain ⟨x, _, hx, hx', hd⟩ := AT l (j := 0) (by omega)
      have e := FW (PK := PK) x
      unfold mkP at h1
      rw [hd] at h1
      generalize hB : inB x 0 7 = B at e h1
      have hyx : True := trivial
      cases B <;> (try by_cases hyx2 : x <= y)
      all_goals first
        | (exfalso; revert h1; simp [*] <;> omega; done)
        | (simp [b167_0, md, hlt, A2 hlt hl, hx', e, CX])
    · have hz0 : ¬ j = 0 := by omega
      obtain ⟨x, _, hx, hx', hd⟩ := AT l (j := j) (by omega)
      have e := FW (PK := PK) x
      unfold mkP at h1
      rw [hd] at h1
      obtain ⟨y, _, hy, hy', hd2⟩ := AT l (j := j - 1) (by omega)
      rw [hd2] at h1
      have hsub : IntKind.wrap .i64 ((j : Int) - 1) = ((j - 1 : Nat) : Int) := by rw [AC (by omega) (by omega)]; omega
      have hz2 : (0 : Int) < j := by omega
      have hj1 : j - 1 < l.length := by omega
      generalize hB : inB x 0 7 = B at e h1
      cases B <;> (try by_cases hyx2 : x <= y)
      all_goals first
        | (exfalso; revert h1; simp [*] <;> omega; done)
        | (simp [b167_0, md, hlt, A2 hlt hl, hx', e, hy', hsub, hz2, hj1, hz0, hz, hyx2])
  rcases hkn with rfl | ⟨hlt, hn⟩
  · have hsz := AL (G := G) (PK := PK) (md := md) (o := 10000000) (live := [0, 5, 6, 7]) (c := b167_0) (st167 l) (l.length) hstep (by simp [b167_0, md, ])
    have hr : (C5 l) = true := BJ hp
    rw [hr]
    simp [p167, md, ]
    rw [hsz]
    · simp [b167_0, md, ]
    · simp
    · simp
  · have h0 : (mkP l k) = false := by simpa using hn
    have h1 := h0
    have hr : (C5 l) = false := B3 hlt h0
    rw [hr]
    rcases Nat.eq_zero_or_pos k with hz | hz
    · subst hz
      obtain ⟨x, _, hx, hx', hd⟩ := AT l (j := 0) (by omega)
      have e := FW (PK := PK) x
      unfold mkP at h1
      rw [hd] at h1
      generalize hB : inB x 0 7 = B at e h1
      have hyx : True := trivial
      cases B <;> (try by_cases hyx2 : x <= y)
      all_goals first
        | (exfalso; revert h1; simp [*] <;> omega; done)
        | (have hsz := AL (G := G) (PK := PK) (md := md) (o := 10000000) (live := [0, 5, 6, 7]) (c := b167_0) (st167 l) (0) hstep (by simp [b167_0, md, hlt, hx', e, CX])
           simp [p167, md, ]
           rw [hsz]
           · simp [b167_0, md, hlt, hx', e, CX]
           · simp
           · simp)
    · have hz0 : ¬ k = 0 := by omega
      obtain ⟨x, _, hx, hx', hd⟩ := AT l (j := k) (by omega)
      have e := FW (PK := PK) x
      unfold mkP at h1
      rw [hd] at h1
      obtain ⟨y, _, hy, hy', hd2⟩ := AT l (j := k - 1) (by omega)
      rw [hd2] at h1
      have hsub : IntKind.wrap .i64 ((k : Int) - 1) = ((k - 1 : Nat) : Int) := by rw [AC (by omega) (by omega)]; omega
      have hz2 : (0 : Int) < k := by omega
      have hj1 : k - 1 < l.length := by omega
      generalize hB : inB x 0 7 = B at e h1
      cases B <;> (try by_cases hyx2 : x <= y)
      all_goals first
        | (exfalso; revert h1; simp [*] <;> omega; done)
        | (have hsz := AL (G := G) (PK := PK) (md := md) (o := 10000000) (live := [0, 5, 6, 7]) (c := b167_0) (st167 l) (k) hstep (by simp [b167_0, md, hlt, hx', e, hy', hsub, hz2, hj1, hz0, hz, hyx2])
           simp [p167, md, ]
           rw [hsz]
           · simp [b167_0, md, hlt, hx', e, hy', hsub, hz2, hj1, hz0, hz, hyx2]
           · simp
           · simp)
theorem PT {l:List Int} {n:Int} (h: ∀j,j<l.length->(!decide (l.getD j 0=n))=true):decide (n∈l)=false:=by
 rw[decide_eq_false_iff_not];intro hm;obtain⟨j,hj,hx⟩:=List.getElem_of_mem hm;have:=h j hj;simp[List.getD_eq_getElem?_getD,hj,hx]at this
theorem PS {l:List Int} {n:Int} {k:Nat} (hk:k<l.length) (h:(!decide (l.getD k 0=n))=false):decide (n∈l)=true:=by
 rw[decide_eq_true_iff];have h1:l.getD k 0=n:=by simpa using h
 rw[←h1,List.getD_eq_getElem?_getD,List.getElem?_eq_getElem hk];exact List.getElem_mem hk
theorem mem_all (l:List Int) (n:Int):(!Af (fun j=> !decide (l.getD j 0=n)) l.length)=decide (n∈l):=by
 obtain⟨k,hk,hp,hkn⟩:=first (fun j=>(!decide (l.getD j 0=n))=true) l.length;rcases hkn with rfl|⟨hlt,hn⟩
 ·rw[BJ hp,PT hp];rfl
 ·have hn':(!decide (l.getD k 0=n))=false:=by simpa using hn
  rw[B3 hlt hn',PS hlt hn'];rfl
@[simp] def st73 (l:List Int) (n:Int) (j:Nat):St:={n:=18,m:=0,tm:=[(0,.im 1 (enc fI l)),(1,.sc (.int .i64 n)),(5,.sc (.int .i64 j))],ob:=[]}
theorem Cg (l:List Int) (n:Int) (hl:l.length<=1048576):AH G PK md 73 [.v (.im 1 (enc fI l)),.v (.sc (.int .i64 n))]=some ⟨[.v (.sc (.bool (decide (n∈l))))],[],[]⟩:=by
 refine AA (pf:=p73) rfl (by simp[p73]) ?_;obtain⟨k,hk,hp,hkn⟩:=first (fun j=>(!decide (l.getD j 0=n))=true) l.length;have hstep: ∀j,j<k-> ∃s',An (AH G PK md) (Ag G PK md) md b73_0 (st73 l n j)=some (.normal,s')/\s'.m<=10000000/\Ai 10000000 [0,1,5] s'=st73 l n (j+1):=fun j hj=>by
  have hlt:j<l.length:=by omega
  have h1:(!decide (l.getD j 0=n))=true:=hp j hj;obtain⟨x,_,hx,hx',hd⟩:=AT l (j:=j) (by omega);rw[hd]at h1;simp at h1;simp[b73_0,md,hlt,A2 hlt hl,hx',h1]
 rcases hkn with rfl|⟨hlt,hn⟩
 ·have hsz:=AL (G:=G) (PK:=PK) (md:=md) (o:=10000000) (live:=[0,1,5]) (c:=b73_0) (st73 l n) (l.length) hstep (by simp[b73_0,md,]);have hr:(decide (n∈l))=false:=PT hp;rw[hr];simp[p73,md,];rw[hsz]
  ·simp[b73_0,md,]
  ·simp
  ·simp
 ·have h0:(!decide (l.getD k 0=n))=false:=by simpa using hn
  have h1:=h0;have hr:(decide (n∈l))=true:=PS hlt h0;rw[hr];obtain⟨x,_,hx,hx',hd⟩:=AT l (j:=k) (by omega);rw[hd]at h1;simp at h1;have hsz:=AL (G:=G) (PK:=PK) (md:=md) (o:=10000000) (live:=[0,1,5]) (c:=b73_0) (st73 l n) (k) hstep (by simp[b73_0,md,hlt,hx',h1]);simp[p73,md,];rw[hsz]
  ·simp[b73_0,md,hlt,hx',h1]
  ·simp
  ·simp
@[simp] def st143 (l:List Int) (n:Int) (j:Nat):St:={n:=19,m:=0,tm:=[(0,.im 1 (enc fI l)),(1,.sc (.int .i64 n)),(7,.sc (.int .i64 l.length)),(8,.sc (.int .i64 j))],ob:=[]}
theorem UV (l : List Int) (n : Int) (hl : l.length <= 1048576) : AH G PK md 143 [.v (.im 1 (enc fI l)), .v (.sc (.int .i64 n))] = some ⟨[.v (.sc (.int .i64 (Em (fun j => !decide (l.getD j 0 = n)) l.length)))], [], []⟩ := by
  refine AA (pf := p143) rfl (by simp [p143]) ?_;obtain ⟨k, hk, hp, hkn⟩ := first (fun j => (!decide (l.getD j 0 = n)) = true) l.length;have hstep : ∀ j, j < k -> ∃ s', An (AH G PK md) (Ag G PK md) md b143_0 (st143 l n j) = some (.normal, s') /\ s'.m <= 10000000 /\ Ai 10000000 [0, 1, 7, 8] s' = st143 l n (j + 1) := fun j hj => by
    have hlt : j < l.length := by omega
    have h1 : (!decide (l.getD j 0 = n)) = true := hp j hj;obtain ⟨x, _, hx, hx', hd⟩ := AT l (j := j) (by omega);rw [hd] at h1;by_cases hnx : n = x
    all_goals first
      | (exfalso; revert h1; simp; omega; done)
      | (simp [b143_0, md, hlt, A2 hlt hl, hx', hnx])
  rcases hkn with rfl | ⟨hlt, hn⟩
  · have hsz := AL (G := G) (PK := PK) (md := md) (o := 10000000) (live := [0, 1, 7, 8]) (c := b143_0) (st143 l n) (l.length) hstep (by simp [b143_0, md, ])
    have hr : (Em (fun j => !decide (l.getD j 0 = n)) l.length) = -1 := CP hp
    rw [hr]
    simp [p143, md, ]
    rw [hsz]
    · simp [b143_0, md, ]
    · simp
    · simp
  · have h0 : (!decide (l.getD k 0 = n)) = false := by simpa using hn
    have h1 := h0
    have hr : (Em (fun j => !decide (l.getD j 0 = n)) l.length) = k := Bq hlt hp h0
    rw [hr]
    obtain ⟨x, _, hx, hx', hd⟩ := AT l (j := k) (by omega)
    rw [hd] at h1
    by_cases hnx : n = x
    all_goals first
      | (exfalso; revert h1; simp; omega; done)
      | (have hsz := AL (G := G) (PK := PK) (md := md) (o := 10000000) (live := [0, 1, 7, 8]) (c := b143_0) (st143 l n) (k) hstep (by simp [b143_0, md, hlt, hx', hnx])
         simp [p143, md, ]
         rw [hsz]
         · simp [b143_0, md, hlt, hx', hnx]
         · simp
         · simp)
theorem Ew (l:List Int) (n:Int) (hl:l.length<=1048576):AH G PK md 107 [.v (.im 1 (enc fI l)),.v (.sc (.int .i64 n))]=some ⟨[.v (.sc (.bool (decide (n∈l))))],[],[]⟩:=by
 refine AA (pf:=p107) rfl (by simp[p107]) ?_;have e:=UV (PK:=PK) l n hl;rw[←mem_all,←I5];simp[p107,md,e]
@[simp] def st171 (l:List Int) (j:Nat):St:={n:=29,m:=0,tm:=[(0,.im 1 (enc fI l)),(3,.sc (.int .i64 j))],ob:=[]}
theorem Ed (l : List Int) (hl : l.length <= 1048576) : AH G PK md 171 [.v (.im 1 (enc fI l))] = some ⟨[.v (.sc (.bool (De l)))], [], []⟩ := by
  refine AA (pf := p171) rfl (by simp [p171]) ?_;obtain ⟨k, hk, hp, hkn⟩ := first (fun j => (gnP l j) = true) l.length;have hstep : ∀ j, j < k -> ∃ s', An (AH G PK md) (Ag G PK md) md b171_0 (st171 l j) = some (.normal, s') /\ s'.m <= 10000000 /\ Ai 10000000 [0, 3] s' = st171 l (j + 1) := fun j hj => by
    have hlt : j < l.length := by omega
    have h1 : (gnP l j) = true := hp j hj;rcases Nat.eq_zero_or_pos j with hz | hz
    · subst hz
      obtain ⟨x, _, hx, hx', hd⟩ := AT l (j := 0) (by omega)
      have e := Aj (PK := PK) x 1 100000
      have e2 := Cg (PK := PK) (l.take 0) x (by rw [List.length_take]; omega)
      unfold gnP at h1
      rw [hd] at h1
      have hle : 0 <= l.length := by omega
      have het := A5 fI l 0
      generalize hB : inB x 1 100000 = B at e h1
      generalize hD : decide (x ∈ l.take 0) = D at e2 h1
      generalize hE : l.take 0 = L at e2 het
      cases B <;> cases D
      all_goals first
        | (exfalso; revert h1; simp; done)
        | (simp [b171_0, md, hlt, A2 hlt hl, hx', e, e2, hle, het, CX])
    · have hz0 : ¬ j = 0 := by omega
      obtain ⟨x, _, hx, hx', hd⟩ := AT l (j := j) (by omega)
      have e := Aj (PK := PK) x 1 100000
      have e2 := Cg (PK := PK) (l.take j) x (by rw [List.length_take]; omega)
      unfold gnP at h1
      rw [hd] at h1
      have hle : j <= l.length := by omega
      have het := A5 fI l j
      generalize hB : inB x 1 100000 = B at e h1
      generalize hD : decide (x ∈ l.take j) = D at e2 h1
      generalize hE : l.take j = L at e2 het
      cases B <;> cases D
      all_goals first
        | (exfalso; revert h1; simp; done)
        | (simp [b171_0, md, hlt, A2 hlt hl, hx', e, e2, hle, het, hz])
  rcases hkn with rfl | ⟨hlt, hn⟩
  · have hsz := AL (G := G) (PK := PK) (md := md) (o := 10000000) (live := [0, 3]) (c := b171_0) (st171 l) (l.length) hstep (by simp [b171_0, md, ])
    have hr : (De l) = decide ((l.length : Int) <= 12) := by unfold De; rw [BJ hp]; rfl
    rw [hr]
    simp [p171, md, ]
    rw [hsz]
    · simp [b171_0, md, ]
    · simp
    · simp
  · have h0 : (gnP l k) = false := by simpa using hn
    have h1 := h0
    have hr : (De l) = false := by unfold De; rw [B3 hlt h0]; rfl
    rw [hr]
    rcases Nat.eq_zero_or_pos k with hz | hz
    · subst hz
      obtain ⟨x, _, hx, hx', hd⟩ := AT l (j := 0) (by omega)
      have e := Aj (PK := PK) x 1 100000
      have e2 := Cg (PK := PK) (l.take 0) x (by rw [List.length_take]; omega)
      unfold gnP at h1
      rw [hd] at h1
      have hle : 0 <= l.length := by omega
      have het := A5 fI l 0
      generalize hB : inB x 1 100000 = B at e h1
      generalize hD : decide (x ∈ l.take 0) = D at e2 h1
      generalize hE : l.take 0 = L at e2 het
      cases B <;> cases D
      all_goals first
        | (exfalso; revert h1; simp; done)
        | (have hsz := AL (G := G) (PK := PK) (md := md) (o := 10000000) (live := [0, 3]) (c := b171_0) (st171 l) (0) hstep (by simp [b171_0, md, hlt, hx', e, e2, hle, het, CX])
           simp [p171, md, ]
           rw [hsz]
           · simp [b171_0, md, hlt, hx', e, e2, hle, het, CX]
           · simp
           · simp)
    · have hz0 : ¬ k = 0 := by omega
      obtain ⟨x, _, hx, hx', hd⟩ := AT l (j := k) (by omega)
      have e := Aj (PK := PK) x 1 100000
      have e2 := Cg (PK := PK) (l.take k) x (by rw [List.length_take]; omega)
      unfold gnP at h1
      rw [hd] at h1
      have hle : k <= l.length := by omega
      have het := A5 fI l k
      generalize hB : inB x 1 100000 = B at e h1
      generalize hD : decide (x ∈ l.take k) = D at e2 h1
      generalize hE : l.take k = L at e2 het
      cases B <;> cases D
      all_goals first
        | (exfalso; revert h1; simp; done)
        | (have hsz := AL (G := G) (PK := PK) (md := md) (o := 10000000) (live := [0, 3]) (c := b171_0) (st171 l) (k) hstep (by simp [b171_0, md, hlt, hx', e, e2, hle, het, hz])
           simp [p171, md, ]
           rw [hsz]
           · simp [b171_0, md, hlt, hx', e, e2, hle, het, hz]
           · simp
           · simp)
@[simp] def st164 (l:List Int) (j:Nat):St:={n:=26,m:=0,tm:=[(0,.im 1 (enc fI l)),(5,.im 1 (enc fI l)),(6,.sc (.int .i64 l.length)),(7,.sc (.int .i64 j))],ob:=[]}
theorem MO (l : List Int) (hl : l.length <= 1048576) : AH G PK md 164 [.v (.im 1 (enc fI l))] = some ⟨[.v (.sc (.bool (De l)))], [], []⟩ := by
  refine AA (pf := p164) rfl (by simp [p164]) ?_;obtain ⟨k, hk, hp, hkn⟩ := first (fun j => (gnP l j) = true) l.length;have hstep : ∀ j, j < k -> ∃ s', An (AH G PK md) (Ag G PK md) md b164_0 (st164 l j) = some (.normal, s') /\ s'.m <= 10000000 /\ Ai 10000000 [0, 5, 6, 7] s' = st164 l (j + 1) := fun j hj => by
    have hlt : j < l.length := by omega
    have h1 : (gnP l j) = true := hp j hj;rcases Nat.eq_zero_or_pos j with hz | hz
    · subst hz
      obtain ⟨x, _, hx, hx', hd⟩ := AT l (j := 0) (by omega)
      have e := CJ (PK := PK) x 1 100000
      have e2 := Ew (PK := PK) (l.take 0) x (by rw [List.length_take]; omega)
      unfold gnP at h1
      rw [hd] at h1
      have hle : 0 <= l.length := by omega
      have het := A5 fI l 0
      generalize hB : inB x 1 100000 = B at e h1
      generalize hD : decide (x ∈ l.take 0) = D at e2 h1
      generalize hE : l.take 0 = L at e2 het
      cases B <;> cases D
      all_goals first
        | (exfalso; revert h1; simp; done)
        | (simp [b164_0, md, hlt, A2 hlt hl, hx', e, e2, hle, het, CX])
    · have hz0 : ¬ j = 0 := by omega
      obtain ⟨x, _, hx, hx', hd⟩ := AT l (j := j) (by omega)
      have e := CJ (PK := PK) x 1 100000
      have e2 := Ew (PK := PK) (l.take j) x (by rw [List.length_take]; omega)
      unfold gnP at h1
      rw [hd] at h1
      have hle : j <= l.length := by omega
      have het := A5 fI l j
      generalize hB : inB x 1 100000 = B at e h1
      generalize hD : decide (x ∈ l.take j) = D at e2 h1
      generalize hE : l.take j = L at e2 het
      cases B <;> cases D
      all_goals first
        | (exfalso; revert h1; simp; done)
        | (simp [b164_0, md, hlt, A2 hlt hl, hx', e, e2, hle, het, hz])
  rcases hkn with rfl | ⟨hlt, hn⟩
  · have hsz := AL (G := G) (PK := PK) (md := md) (o := 10000000) (live := [0, 5, 6, 7]) (c := b164_0) (st164 l) (l.length) hstep (by simp [b164_0, md, ])
    have hr : (De l) = decide ((l.length : Int) <= 12) := by unfold De; rw [BJ hp]; rfl
    rw [hr]
    simp [p164, md, ]
    rw [hsz]
    · simp [b164_0, md, ]
    · simp
    · simp
  · have h0 : (gnP l k) = false := by simpa using hn
    have h1 := h0
    have hr : (De l) = false := by unfold De; rw [B3 hlt h0]; rfl
    rw [hr]
    rcases Nat.eq_zero_or_pos k with hz | hz
    · subst hz
      obtain ⟨x, _, hx, hx', hd⟩ := AT l (j := 0) (by omega)
      have e := CJ (PK := PK) x 1 100000
      have e2 := Ew (PK := PK) (l.take 0) x (by rw [List.length_take]; omega)
      unfold gnP at h1
      rw [hd] at h1
      have hle : 0 <= l.length := by omega
      have het := A5 fI l 0
      generalize hB : inB x 1 100000 = B at e h1
      generalize hD : decide (x ∈ l.take 0) = D at e2 h1
      generalize hE : l.take 0 = L at e2 het
      cases B <;> cases D
      all_goals first
        | (exfalso; revert h1; simp; done)
        | (have hsz := AL (G := G) (PK := PK) (md := md) (o := 10000000) (live := [0, 5, 6, 7]) (c := b164_0) (st164 l) (0) hstep (by simp [b164_0, md, hlt, hx', e, e2, hle, het, CX])
           simp [p164, md, ]
           rw [hsz]
           · simp [b164_0, md, hlt, hx', e, e2, hle, het, CX]
           · simp
           · simp)
    · have hz0 : ¬ k = 0 := by omega
      obtain ⟨x, _, hx, hx', hd⟩ := AT l (j := k) (by omega)
      have e := CJ (PK := PK) x 1 100000
      have e2 := Ew (PK := PK) (l.take k) x (by rw [List.length_take]; omega)
      unfold gnP at h1
      rw [hd] at h1
      have hle : k <= l.length := by omega
      have het := A5 fI l k
      generalize hB : inB x 1 100000 = B at e h1
      generalize hD : decide (x ∈ l.take k) = D at e2 h1
      generalize hE : l.take k = L at e2 het
      cases B <;> cases D
      all_goals first
        | (exfalso; revert h1; simp; done)
        | (have hsz := AL (G := G) (PK := PK) (md := md) (o := 10000000) (live := [0, 5, 6, 7]) (c := b164_0) (st164 l) (k) hstep (by simp [b164_0, md, hlt, hx', e, e2, hle, het, hz])
           simp [p164, md, ]
           rw [hsz]
           · simp [b164_0, md, hlt, hx', e, e2, hle, het, hz]
           · simp
           · simp)
def Dd (ll:List (List Int)):Bool:=Af (fun j=>C5 (ll.getD j [])) ll.length
def lls (ll:List (List Int)):Prop:=ll.length<=1048576/\ ∀x∈ll,x.length<=1048576
def BP (m:Av):Bool:=De m.gens&&decide ((m.gens.length:Int)>0)&&(((m.bits.length:Int)==3)&&Dd m.bits)&&inB m.last 0 200&& !(m.old&&m.held)
def mtS (m:Av):Prop:=m.gens.length<=1048576/\lls m.bits
theorem Ax (l:List (List Int)) {j:Nat} (h:j<l.length): ∃ (x:List Int) (hj:j<l.length),l[j]? =some x/\l[j]=x/\l.getD j []=x/\x∈l:=⟨l[j],h,List.getElem?_eq_getElem h,rfl,by simp[List.getD_eq_getElem?_getD,h],List.getElem_mem h⟩
theorem I9 (l:List Int) (hl:l.length<=1048576):AH G PK md 166 [.v (.im 1 (enc fI l))]=some ⟨[.v (.sc (.bool (!C5 l)))],[],[]⟩:=by
 refine AA (pf:=p166) rfl (by simp[p166]) ?_;have e:=KY (PK:=PK) l hl;simp[p166,md,e]
@[simp] def st183 (ll:List (List Int)) (j:Nat):St:={n:=19,m:=0,tm:=[(0,.im 1 (enc fII ll)),(1,.clo 166 []),(7,.sc (.int .i64 ll.length)),(8,.sc (.int .i64 j))],ob:=[]}
theorem M1 (ll:List (List Int)) (hl:lls ll):AH G PK md 183 [.v (.im 1 (enc fII ll)),.c 166 []]=some ⟨[.v (.sc (.int .i64 (Em (fun j=>C5 (ll.getD j [])) ll.length)))],[],[]⟩:=by
 refine AA (pf:=p183) rfl (by simp[p183]) ?_;obtain⟨k,hk,hp,hkn⟩:=first (fun j=>(C5 (ll.getD j []))=true) ll.length;have hstep: ∀j,j<k-> ∃s',An (AH G PK md) (Ag G PK md) md b183_0 (st183 ll j)=some (.normal,s')/\s'.m<=10000000/\Ai 10000000 [0,1,7,8] s'=st183 ll (j+1):=fun j hj=>by
  have hlt:j<ll.length:=by omega
  have h1:(C5 (ll.getD j []))=true:=hp j hj;obtain⟨x,_,hx,hx',hd,hm⟩:=Ax ll (j:=j) (by omega);rw[hd]at h1;have e:=I9 (PK:=PK) x (hl.2 x hm);rw[h1]at e;simp only[Bool.not_true,Bool.not_false]at e;simp[b183_0,md,hlt,A2 hlt hl.1,hx',e]
 rcases hkn with rfl|⟨hlt,hn⟩
 ·have hsz:=AL (G:=G) (PK:=PK) (md:=md) (o:=10000000) (live:=[0,1,7,8]) (c:=b183_0) (st183 ll) (ll.length) hstep (by simp[b183_0,md,]);have hr:(Em (fun j=>C5 (ll.getD j [])) ll.length)=(-1):=CP hp;rw[hr];simp[p183,md,];rw[hsz]
  ·simp[b183_0,md,]
  ·simp
  ·simp
 ·have h0:(C5 (ll.getD k []))=false:=by simpa using hn
  have h1:=h0;have hr:(Em (fun j=>C5 (ll.getD j [])) ll.length)=k:=Bq hlt hp h0;rw[hr];obtain⟨x,_,hx,hx',hd,hm⟩:=Ax ll (j:=k) (by omega);rw[hd]at h1;have e:=I9 (PK:=PK) x (hl.2 x hm);rw[h1]at e;simp only[Bool.not_true,Bool.not_false]at e;have hsz:=AL (G:=G) (PK:=PK) (md:=md) (o:=10000000) (live:=[0,1,7,8]) (c:=b183_0) (st183 ll) (k) hstep (by simp[b183_0,md,hlt,hx',e]);simp[p183,md,];rw[hsz]
  ·simp[b183_0,md,hlt,hx',e]
  ·simp
  ·simp
theorem Js (ll:List (List Int)) (hl:lls ll):AH G PK md 165 [.v (.im 1 (enc fII ll)),.c 166 []]=some ⟨[.v (.sc (.bool (!Dd ll)))],[],[]⟩:=by
 refine AA (pf:=p165) rfl (by simp[p165]) ?_;have e:=M1 (PK:=PK) ll hl;unfold Dd;rw[←I5];simp[p165,md,e]
theorem KH (ll:List (List Int)) (hl:lls ll):AH G PK md 126 [.v (.im 1 (enc fII ll))]=some ⟨[.v (.sc (.bool (((ll.length:Int)==3)&&Dd ll)))],[],[]⟩:=by
 refine AA (pf:=p126) rfl (by simp[p126]) ?_;have e:=Js (PK:=PK) ll hl;by_cases h:(ll.length:Int)=3
 ·simp[p126,md,e,h]
 ·simp[p126,md,e,h]
@[simp] def OJ (m:Av):Obj:= .box [.im 1 (enc fI m.gens),.im 1 (enc fII m.bits),.sc (.bool m.fine),.sc (.bool m.old),.sc (.bool m.held),.sc (.int .i64 m.last)]
theorem Ee (m:Av) (hm:mtS m):AH G PK md 125 [.a (AJ (fM m))]=some ⟨[.v (.sc (.bool (BP m)))],[],[]⟩:=by
 refine AA (pf:=p125) rfl (by simp[p125]) ?_;have e1:=MO (PK:=PK) m.gens hm.1;have e2:=KH (PK:=PK) m.bits hm.2;have e3:=CJ (PK:=PK) m.last 0 200;unfold BP;generalize De m.gens=b1 at e1;generalize (((m.bits.length:Int)==3)&&Dd m.bits)=b2 at e2;generalize inB m.last 0 200=b3 at e3
 cases b1 with
 |false=>simp[p125,md,e1]
 |true=>
  by_cases hg:0<m.gens.length
  ·cases b2 with
   |false=>simp[p125,md,e1,e2,hg]
   |true=>
    cases b3 with
    |false=>simp[p125,md,e1,e2,e3,hg]
    |true=>cases ho:m.old<;>simp[p125,md,e1,e2,e3,hg,ho]
  ·simp[p125,md,e1,hg]
@[simp] def st131 (m:Av) (j:Nat):St:={n:=47,m:=0,tm:=[(1,.pb 10000000 0),(3,.sc (.int .i64 j))],ob:=[(10000000,OJ m)]}
theorem Ce (m:Av) (hm:mtS m):AH G PK md 131 [.a (AJ (fM m))]=some ⟨[.v (.sc (.bool (BP m)))],[],[]⟩:=by
 refine AA (pf:=p131) rfl (by simp[p131]) ?_;obtain⟨k,hk,hp,hkn⟩:=first (fun j=>(C5 (m.bits.getD j []))=true) m.bits.length;have hstep: ∀j,j<k-> ∃s',An (AH G PK md) (Ag G PK md) md b131_0 (st131 m j)=some (.normal,s')/\s'.m<=10000000/\Ai 10000000 [1,3] s'=st131 m (j+1):=fun j hj=>by
  have hlt:j<m.bits.length:=by omega
  have h1:(C5 (m.bits.getD j []))=true:=hp j hj;obtain⟨x,_,hx,hx',hd,hmm⟩:=Ax m.bits (j:=j) (by omega);rw[hd]at h1;have e:=EC (PK:=PK) x (hm.2.2 x hmm);rw[h1]at e;simp[b131_0,md,hlt,A2 hlt hm.2.1,hx',e]
 rcases hkn with rfl|⟨hlt,hn⟩
 ·have hsz:=AL (G:=G) (PK:=PK) (md:=md) (o:=10000000) (live:=[1,3]) (c:=b131_0) (st131 m) (m.bits.length) hstep (by simp[b131_0,md,]);have hr:(BP m)=(De m.gens&&decide ((m.gens.length:Int)>0)&&((m.bits.length:Int)==3)&&inB m.last 0 200&& !(m.old&&m.held)):=by unfold BP Dd;rw[BJ hp,Bool.and_true]
  have e1:=Ed (PK:=PK) m.gens hm.1;have e3:=Aj (PK:=PK) m.last 0 200;rw[hr];simp[p131,md];rw[hsz]
  ·generalize De m.gens=b1 at e1;generalize inB m.last 0 200=b3 at e3
   cases b1 with
   |false=>simp[b131_0,md,e1]
   |true=>
    by_cases hg:0<m.gens.length
    ·by_cases hb:(m.bits.length:Int)=3
     ·cases b3 with
      |false=>simp[b131_0,md,e1,e3,hg,hb]
      |true=>cases ho:m.old<;>simp[b131_0,md,e1,e3,hg,hb,ho]
     ·simp[b131_0,md,e1,hg,hb]
    ·simp[b131_0,md,e1,hg]
  ·simp
  ·simp
 ·have h0:(C5 (m.bits.getD k []))=false:=by simpa using hn
  have h1:=h0;have hr:(BP m)=false:=by unfold BP Dd;rw[B3 hlt h0];simp
  rw[hr];obtain⟨x,_,hx,hx',hd,hmm⟩:=Ax m.bits (j:=k) (by omega);rw[hd]at h1;have e:=EC (PK:=PK) x (hm.2.2 x hmm);rw[h1]at e;have hsz:=AL (G:=G) (PK:=PK) (md:=md) (o:=10000000) (live:=[1,3]) (c:=b131_0) (st131 m) (k) hstep (by simp[b131_0,md,hlt,hx',e]);simp[p131,md,];rw[hsz]
  ·simp[b131_0,md,hlt,hx',e]
  ·simp
  ·simp
end Go.Proofs.YtbolhfegdocpeaaGreat.Ow
