/- Lemmas of the proof. -/
import Derived.Test.YtcaicpnepfjcmaaGreatPh
set_option linter.all false
namespace Go.Proofs.YtcaicpnepfjcmaaGreat
open Go Go.RowKit
theorem Iw{A B:List PcQ}{i:Nat}(h:i<A.length):A6 (A++B) i=A6 A i:=by
 unfold A6
 rw[a0i,a0i,a1k h]
theorem R7(A:List PcQ)(y:PcQ):A6 (A++[y]) A.length=y:=by
 unfold A6
 simp
/-! ### The curve of a move -/
theorem A3t(d:Int)(m:MoveR):∃y Y,D7 d m=y::Y/\y.a=0/\(y::Y).getLast (by simp)=⟨G6 d m,(d:Rat),0,0⟩:=by
 unfold D7
 split
 ·exact⟨_,_,rfl,rfl,rfl⟩
 ·exact⟨_,_,rfl,rfl,rfl⟩
theorem mvO_spec{q:CueR}{n:ByteArray}:(∀m,mvO q n=some m->m∈q.moves/\m.set=n)/\(mvO q n=none->¬∃m∈q.moves,m.set=n):=by
 have key:∀(l:List MoveR),¬idx (fun m:MoveR=>m.set=n) l<0->∀m,l[(idx (fun m:MoveR=>m.set=n) l).toNat]?=some m->m.set=n:=by
  intro l
  induction l with
  |nil=>intro h0 m h;simp at h
  |cons x l ih=>
   intro h0 m h1
   rw[idx]at h0 h1
   by_cases hx:x.set=n
   ·rw[if_pos hx]at h1
    simp at h1
    rw[<-h1];exact hx
   ·rw[if_neg hx]at h0 h1
    split at h1
    ·rename_i hneg
     rw[if_pos hneg]at h0
     omega
    ·rename_i hneg
     have e:(idx (fun m:MoveR=>m.set=n) l+1).toNat=(idx (fun m:MoveR=>m.set=n) l).toNat+1:=by
      have:=D8 (fun m:MoveR=>m.set=n) l
      omega
     rw[e,a2l]at h1
     exact ih (by have:=D8 (fun m:MoveR=>m.set=n) l;omega) m h1
 constructor
 ·intro m hm
  refine⟨Xq hm,?_⟩
  unfold mvO at hm
  split at hm
  ·cases hm
  ·rename_i h0
   exact key q.moves h0 m hm
 ·rintro hn ⟨m,hm,e⟩
  have h0:¬idx (fun m:MoveR=>m.set=n) q.moves= -1:=Ma ⟨m,hm,e⟩
  have h1:=D8 (fun m:MoveR=>m.set=n) q.moves
  have h2:¬mvI q n<0:=by show ¬idx _ _<0;omega
  unfold mvO at hn
  rw[if_neg h2]at hn
  obtain⟨x,hx⟩:=Iu (p:=fun m:MoveR=>m.set=n) (l:=q.moves) h2
  change q.moves[(mvI q n).toNat]?=some x at hx
  rw[hx]at hn
  cases hn
theorem Ac3{h:HouseR}(hp:Bv h){k:Nat}{s:SetR}(hs:h.sets[k]?=some s):Aa h s.name=k:=by
 have hi:¬Aa h s.name= -1:=Ma ⟨s,a0a hs,rfl⟩
 have h2: -1<=Aa h s.name:=D8 _ _
 obtain⟨t,h3,h4⟩:=A4g (h:=h) (n:=s.name) (by omega)
 have:=A23 hp.2.2.2.2.2.2 h3 hs h4
 omega
theorem Adt:mil 0=0:=by decide+kernel
end Go.Proofs.YtcaicpnepfjcmaaGreat
