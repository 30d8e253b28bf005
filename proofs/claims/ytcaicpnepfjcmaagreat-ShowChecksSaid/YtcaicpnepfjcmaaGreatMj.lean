/- Lemmas of the proof. -/
import Derived.Test.YtcaicpnepfjcmaaGreatPa
set_option linter.all false
set_option maxHeartbeats 64000000
namespace Go.Proofs.YtcaicpnepfjcmaaGreat
open Go Go.RowKit
def a0i:= @List.getD_eq_getElem?_getD
def a3r:= @List.pairwise_iff_getElem
def a4h:= @List.nil_append
def b2l:= @Region.waitsFor_spec
/-! ### Bricks -/
def M3(x:BrickR):Prop:=Ec x.name=true/\(1<=x.weight/\x.weight<=1048576)/\0<=x.count/\x.count<=60
def K9(l:List BrickR):Int:=(l.map BrickR.count).sum
theorem Zv(l:List BrickR)(x:BrickR):K9 (l++[x])=K9 l+x.count:=by simp[K9,List.sum_append]
theorem A6k{l:List BrickR}(h:∀x∈l,M3 x):0<=K9 l/\K9 l<=60*l.length:=by
 induction l with
 |nil=>simp[K9]
 |cons x l ih=>
  have h1:=(h x (by simp)).2.2
  have h2:=ih fun y hy=>h y (by simp[hy])
  have:K9 (x::l)=x.count+K9 l:=by simp[K9]
  simp only[a0j]
  omega
def Ry(l:List BrickR):Prop:=l.length<=8/\(l.map BrickR.name).Nodup/\(∀x∈l,M3 x)/\K9 l<=60
noncomputable instance (l:List BrickR):Decidable (Ry l):=Classical.propDecidable _
theorem A6x(l:List BrickR)(hs:l.length<=9223372036854775807):Fz 175 [.sl (l.map BrickR.row)] (.b (decide (Ry l))):=by
 have htw:=A8l l BrickR.row BrickR.name 242 [] (fun _=>rfl) (fun _=>rfl) hs rfl fun x _=>A3q x
 have hle:=lmA l BrickR.row
 refine Fo Tryz.func175 ?_
 repeat' first|refine WX ?_|refine W2 ?_ ?_<;>intro hc
 all_goals first
  |exact Dd rfl rfl (congrArg Value.bool (decide_eq_false (fun h=>by have:=h.1;omega)).symm)
  |exact Dd rfl rfl (congrArg Value.bool (decide_eq_false (fun h=>by have:=h.2.1;contradiction)).symm)
  |skip
 have hs8:l.length<=8:=by omega
 refine p0c (fun k=>k<=l.length/\∀x∈l.take k,M3 x) (fun k=>l.length-k) (fun k=>[(15,.i k),(14,.i (l.map BrickR.row).length),(13,.sl (l.map BrickR.row)),(0,.sl (l.map BrickR.row)),(3,.i (K9 (l.take k)))]) (fun _=>[]) 0 ⟨a0k _,by simp⟩ CV .nil ?_
 rintro k ⟨hk,hok⟩
 have hsum:=A6k hok
 have hlk:(l.take k).length<=8:=by simp;omega
 by_cases hlt:k<l.length
 ·have h1:(k:Int)<((l.map BrickR.row).length:Nat):=by omega
  obtain⟨x,hx⟩:∃x,l[k]?=some x:=⟨l[k],a0b hlt⟩
  have hb:(l.map BrickR.row)[((k:Nat):Int).toNat]?=some (BrickR.row x):=by rw[a0q,a0d,hx];rfl
  have hsn:l.take (k+1)=l.take k++[x]:=by rw[a0u,hx];rfl
  have hmem:x∈l:=a0a hx
  repeat' first|refine WY ?_|refine Zb5 ?_|refine Zc (F1 _) ?_|refine Zc (Gi _ _ _) ?_|refine V ?_|refine W2 ?_ ?_<;>intro hc
  all_goals first
   |exact Next.go (k+1) ⟨by omega,by rw[hsn];intro y hy;rcases a0p.1 hy with hy|hy;exact hok y hy;obtain rfl:y=x:=(by simpa using hy);exact⟨by assumption,by assumption,by assumption⟩⟩ (by omega) (.cons rfl rfl (.cons rfl rfl (.cons rfl rfl (.cons rfl rfl (.cons (by rw[hsn,Zv];rfl) rfl .nil))))) .nil
   |exact Dd rfl rfl (congrArg Value.bool (decide_eq_false (fun h=>by
    have h3:=h.2.2.1 x hmem
    unfold M3 at h3
    simp_all)).symm)
 ·have h1:¬(k:Int)<((l.map BrickR.row).length:Nat):=by omega
  have hk2:l.take k=l:=a0g (by omega)
  rw[hk2]at hok hsum
  rw[hk2]
  repeat' first|refine WX ?_|refine W2 ?_ ?_<;>intro hc
  exact Dd rfl rfl (congrArg Value.bool (decide_eq_decide.2 ⟨fun h=>⟨hs8,by first|assumption|exact a1x (by assumption),hok,h⟩,fun h=>h.2.2.2⟩))

/-! ### Lift lines -/
def Vx(l:List Int)(len:Int):Prop:=(2<=l.length/\l.length<=10)/\(∀x∈l,0<=x/\x<=len)/\l.Pairwise (· < ·)
noncomputable instance (l:List Int)(len:Int):Decidable (Vx l len):=Classical.propDecidable _
theorem Rc{l:List Int}(h:l.Pairwise (· < ·)){i j:Nat}{a b:Int}(hi:l[i]?=some a)(hj:l[j]?=some b)(hij:i<j):a<b:=by
 rw[a3r]at h
 obtain⟨h1,rfl⟩:=a0f.1 hi
 obtain⟨h2,rfl⟩:=a0f.1 hj
 exact h i j h1 h2 hij
theorem A5z{l:List Int}{x y:Int}{k:Nat}(h:(l.take (k+1)).Pairwise (· < ·))(hy:l[k]?=some y)(hx:l[k+1]?=some x):(l.take (k+2)).Pairwise (· < ·)↔y<x:=by
 have hsn:l.take (k+2)=l.take (k+1)++[x]:=by rw[a0u,hx];rfl
 have hyk:(l.take (k+1))[k]?=some y:=by rw[a1o (by omega)];exact hy
 rw[hsn,a5j]
 constructor
 ·rintro⟨_,_,h3⟩
  exact h3 y (a0a hyk) x (by simp)
 ·intro hlt
  refine⟨h,by simp,fun a ha b hb=>?_⟩
  obtain rfl:b=x:=by simpa using hb
  obtain⟨i,hi⟩:=a2x ha
  have hik:i<k+1:=by
   have:=(a0f.1 hi).1
   simp at this;omega
  rcases a0y i k with h1|h1
  ·have:=Rc h hi hyk h1
   omega
  ·obtain rfl:i=k:=by omega
   rw[hi]at hyk
   injection hyk with hyk
   omega
theorem A90(l:List Int)(len:Int)(hs:l.length<=9223372036854775807):Fz 173 [.sl (l.map A1),.i len] (.b (decide (Vx l len))):=by
 have hle:=lmA l A1
 by_cases h2:(2:Int)<=((l.map A1).length:Nat)/\(((l.map A1).length:Nat):Int)<=10
 ·obtain⟨a,ha⟩:∃a,l[0]?=some a:=⟨l[0],a0b (by omega)⟩
  obtain⟨z,hz⟩:∃z,l[l.length-1]?=some z:=⟨l[l.length-1],a0b (by omega)⟩
  have hb0:(l.map A1)[((0:Int)).toNat]?=some (A1 a):=by rw[show((0:Int)).toNat=0 from rfl,a0d,ha];rfl
  have hbz:(l.map A1)[((((l.map A1).length:Nat):Int)-1).toNat]?=some (A1 z):=by rw[show((((l.map A1).length:Nat):Int)-1).toNat=l.length-1 by omega,a0d,hz];rfl
  refine Fo Tryz.func173 ?_
  repeat' first|refine WY ?_|refine Zc (Gi _ _ _) ?_|refine V ?_|refine W2 ?_ ?_<;>intro hc
  all_goals first
   |exact Dd rfl rfl (congrArg Value.bool (decide_eq_false (fun h=>by
    have h3:=h.2.1 a (a0a ha)
    have h4:=h.2.1 z (a0a hz)
    omega)).symm)
   |skip
  refine p0c (fun k=>1<=k/\k<=l.length/\(l.take k).Pairwise (· < ·)) (fun k=>l.length-k) (fun k=>[(5,.i k),(0,.sl (l.map A1)),(1,.i len)]) (fun _=>[]) 1 ⟨a0n _,by omega,by rw[show(1:Nat)=0+1 from rfl,a0u,ha];simp⟩ CV .nil ?_
  rintro k ⟨hk0,hk,hok⟩
  by_cases hlt:k<l.length
  ·have h1:(k:Int)<((l.map A1).length:Nat):=by omega
   obtain⟨j,rfl⟩:∃j,k=j+1:=⟨k-1,by omega⟩
   obtain⟨x,hx⟩:∃x,l[j+1]?=some x:=⟨l[j+1],a0b hlt⟩
   obtain⟨y,hy⟩:∃y,l[j]?=some y:=⟨l[j],a0b (by omega)⟩
   have hb:(l.map A1)[((((j+1:Nat)):Int)).toNat]?=some (A1 x):=by rw[a0q,a0d,hx];rfl
   have hb2:(l.map A1)[((((j+1:Nat)):Int)-1).toNat]?=some (A1 y):=by rw[show((((j+1:Nat)):Int)-1).toNat=j by omega,a0d,hy];rfl
   have hps:=A5z hok hy hx
   repeat' first|refine WY ?_|(apply p0u A8 (by kernel_rfl))|refine V ?_|refine W2 ?_ ?_<;>intro hc
   all_goals first
    |exact Next.go (j+1+1) ⟨by omega,by omega,hps.2 (by omega)⟩ (by omega) CV .nil
    |exact Dd rfl rfl (congrArg Value.bool (decide_eq_false (fun h=>by
     have:=Rc h.2.2 hy hx (by omega)
     omega)).symm)
  ·have h1:¬(k:Int)<((l.map A1).length:Nat):=by omega
   rw[a0g (by omega)]at hok
   repeat' first|refine WX ?_|refine W2 ?_ ?_<;>intro hc
   refine Dd rfl rfl (congrArg Value.bool (decide_eq_true ⟨by omega,fun x hx=>?_,hok⟩).symm)
   obtain⟨i,hi⟩:=a2x hx
   have hil:=(a0f.1 hi).1
   have g1:a<=x:=by
    rcases a3e i with e|e
    ·subst e;rw[ha]at hi;injection hi with hi;omega
    ·have:=Rc hok ha hi e;omega
   have g2:x<=z:=by
    rcases a0y i (l.length-1)with e|e
    ·have:=Rc hok hi hz e;omega
    ·obtain rfl:i=l.length-1:=by omega
     rw[hz]at hi;injection hi with hi;omega
   omega
 ·skip
  refine Fo Tryz.func173 ?_
  repeat' first|refine W ?_|refine Zc (Gi _ _ _) ?_|refine V ?_|refine W2 ?_ ?_<;>intro hc
  all_goals exact Dd rfl rfl (congrArg Value.bool (decide_eq_false (fun h=>by have:=h.1;omega)).symm)
def Cb(s:SetR):Prop:=Ec s.name=true/\(0<=s.depth/\s.depth<=1048576)/\0<=s.low/\s.low<=s.high/\s.high<=1048576/\(1000<=s.length/\s.length<=1048576)/\s.length%1000=0/\Vx s.lines s.length/\
 (0<=s.pipe/\s.pipe<=1048576)/\(0<=s.arbor/\s.arbor<=1048576)/\(1<=s.purchase/\s.purchase<=2)/\(1<=s.most/\s.most<=67108864)/\(0<=s.brake/\s.brake<=67108864)/\Vt s.items s.length/\Ry s.bricks
noncomputable instance (s:SetR):Decidable (Cb s):=Classical.propDecidable _
def SetR.fits(s:SetR):Prop:=s.lines.length<=9223372036854775807/\s.items.length<=9223372036854775807/\s.bricks.length<=9223372036854775807
theorem Gv(s:SetR)(hf:s.fits):Fz 92 [A0 s.row] (.b (decide (Cb s))):=by
 refine Fo Tryz.func92 ?_
 repeat' first|refine W ?_|refine Zc (F1 _) ?_|refine Zc (Gi _ _ _) ?_|refine Zc (A90 s.lines s.length hf.1) ?_|refine Zbi (A8z s.items s.length (by omega) hf.2.1) ?_|refine Zc (A6x s.bricks hf.2.2) ?_|(apply S.rem;(iterate 3 exact rfl);omega)|refine V ?_|refine W2 ?_ ?_<;>intro hc
 all_goals exact Dd rfl rfl (by simp only[Cb];simp[*])

/-! ### Beams -/
def Ss(x:RoofR):Prop:=Ec x.name=true/\(0<=x.from_/\x.from_<=1048576)/\(0<=x.to/\x.to<=1048576)/\x.from_<=x.to/\0<=x.most/\x.most<=67108864
def Ws(l:List RoofR):Prop:=l.length<=20/\(∀x∈l,Ss x)/\(l.map RoofR.name).Nodup
noncomputable instance (l:List RoofR):Decidable (Ws l):=Classical.propDecidable _
theorem A3v(x y:RoofR):Fz 226 [A0 y.row,.rop x.row] (.b (decide (y.name=x.name))):=by
 refine Fo Tryz.func226 ?_
 repeat' first|refine WX ?_|refine W2 ?_ ?_<;>intro hc
 all_goals exact Dd rfl rfl (by rfl)
theorem Xx(l:List RoofR)(k:Nat)(x:RoofR)(hs:l.length<=20):
  Fz 225 [.sl ((l.map RoofR.row).take ((k:Nat):Int).toNat),.fn (.func 226) [] [.rop x.row]] (.b (decide (∃y∈l.take k,y.name=x.name))):=by
 rw[a0q,<-a6u]
 exact U5 (l.take k) RoofR.row (fun y=>y.name=x.name) _ _ (fun _=>rfl) (by simp;omega) rfl fun y hy=>A3v x y
theorem Ct{α:Type}(nm:α->ByteArray)(m:List α)(x:α):((m++[x]).map nm).Nodup↔(m.map nm).Nodup/\¬∃y∈m,nm y=nm x:=by
 rw[a1f,a9g,W6]
 simp
theorem Li{α:Type}{nm:α->ByteArray}{l:List α}(h:(l.map nm).Nodup)(k:Nat):((l.take k).map nm).Nodup:=by
 rw[<-a4i k l,a1f]at h
 unfold List.Nodup at h⊢
 exact(a5j.1 h).1
theorem A7k(l:List RoofR)(hs:l.length<=9223372036854775807):Fz 167 [.sl (l.map RoofR.row)] (.b (decide (Ws l))):=by
 have hle:=lmA l RoofR.row
 refine Fo Tryz.func167 ?_
 repeat' first|refine WX ?_|refine W2 ?_ ?_<;>intro hc
 all_goals first
  |exact Dd rfl rfl (congrArg Value.bool (decide_eq_false (fun h=>by have:=h.1;omega)).symm)
  |skip
 have hs20:l.length<=20:=by omega
 refine p0c (fun k=>k<=l.length/\(∀x∈l.take k,Ss x)/\((l.take k).map RoofR.name).Nodup) (fun k=>l.length-k) (fun k=>[(10,.i k),(9,.i (l.map RoofR.row).length),(8,.sl (l.map RoofR.row)),(0,.sl (l.map RoofR.row))]) (fun _=>[]) 0 ⟨a0k _,by simp⟩ CV .nil ?_
 rintro k ⟨hk,hok,hnd⟩
 by_cases hlt:k<l.length
 ·have h1:(k:Int)<((l.map RoofR.row).length:Nat):=by omega
  obtain⟨x,hx⟩:∃x,l[k]?=some x:=⟨l[k],a0b hlt⟩
  have hb:(l.map RoofR.row)[((k:Nat):Int).toNat]?=some (RoofR.row x):=by rw[a0q,a0d,hx];rfl
  have hsn:l.take (k+1)=l.take k++[x]:=by rw[a0u,hx];rfl
  have hmem:x∈l:=a0a hx
  repeat' first|refine WY ?_|refine Zb5 ?_|refine Zc (A3u _) ?_|refine Zc (A3w _) ?_|(apply p1o;(iterate 3 exact rfl);omega;(intro row hr;obtain⟨z,_,rfl⟩:=a1d.1 hr;rfl))|(apply S.callV;exact rfl;exact Xx l k x hs20;exact .cons (.one (.lf _)) (.cons (.fn (.cons (.ptr0 rfl) .nil)) .nil);exact rfl;exact rfl)|refine V ?_|refine W2 ?_ ?_<;>intro hc
  all_goals first
   |exact Next.go (k+1) ⟨by omega,by rw[hsn];intro y hy;rcases a0p.1 hy with hy|hy;exact hok y hy;obtain rfl:y=x:=(by simpa using hy);exact⟨by assumption,by assumption,by assumption,by omega,by omega,by omega⟩,by rw[hsn];exact(Ct _ _ _).2 ⟨hnd,by assumption⟩⟩ (by omega) CV .nil
   |exact Dd rfl rfl (congrArg Value.bool (decide_eq_false (fun h=>by
    have h3:=h.2.1 x hmem
    have h4:=Li h.2.2 (k+1)
    rw[hsn]at h4
    have h5:=((Ct _ _ _).1 h4).2
    unfold Ss at h3
    first|contradiction|omega|(simp_all;done))).symm)
 ·have h1:¬(k:Int)<((l.map RoofR.row).length:Nat):=by omega
  have hk2:l.take k=l:=a0g (by omega)
  rw[hk2]at hok hnd
  repeat' first|refine WX ?_|refine W2 ?_ ?_<;>intro hc
  exact Dd rfl rfl (congrArg Value.bool (decide_eq_true ⟨hs20,hok,hnd⟩).symm)

/-! ### Houses -/
abbrev Aa(h:HouseR)(n:ByteArray):Int:=idx (fun s:SetR=>s.name=n) h.sets
theorem A3y(n:ByteArray)(s:SetR):Fz 168 [A0 s.row,.rop [.s n]] (.b (decide (s.name=n))):=by
 refine Fo Tryz.func168 ?_
 repeat' first|refine WX ?_|refine W2 ?_ ?_<;>intro hc
 all_goals exact Dd rfl rfl (by rfl)
theorem Vr(h:HouseR)(n:ByteArray)(hs:h.sets.length<=9223372036854775807):Fz 87 [A0 h.row,.s n] (.i (Aa h n)):=by
 have hc:Fz 88 [.sl (h.sets.map SetR.row),.fn (.func 168) [] [.rop [.s n]]] (.i (Aa h n)):=
  Mb h.sets SetR.row (fun s=>s.name=n) _ _ (fun _=>rfl) hs rfl fun s _=>A3y n s
 refine Fo Tryz.func87 ?_
 repeat' first|refine W ?_|(apply S.callV;exact rfl;exact hc;exact .cons (.one (.lf _)) (.cons (.fn (.cons (.ptr0 (cs:=[.s n]) rfl) .nil)) .nil);exact rfl;exact rfl)|refine V ?_|refine W2 ?_ ?_<;>intro hc
 all_goals exact Dd rfl rfl (by rfl)
theorem Ad1(n:ByteArray)(s:SetR):Fz 258 [A0 s.row,.rop [.s n]] (.b (decide (s.name=n))):=by
 refine Fo Tryz.func258 ?_
 repeat' first|refine WX ?_|refine W2 ?_ ?_<;>intro hc
 all_goals exact Dd rfl rfl (by rfl)
theorem S8(h:HouseR)(n:ByteArray)(hs:h.sets.length<=9223372036854775807):Fz 190 [A0 h.row,.s n] (.i (Aa h n)):=by
 have hc:Fz 88 [.sl (h.sets.map SetR.row),.fn (.func 258) [] [.rop [.s n]]] (.i (Aa h n)):=
  Mb h.sets SetR.row (fun s=>s.name=n) _ _ (fun _=>rfl) hs rfl fun s _=>Ad1 n s
 refine Fo Tryz.func190 ?_
 repeat' first|refine W ?_|(apply S.callV;exact rfl;exact hc;exact .cons (.one (.lf _)) (.cons (.fn (.cons (.ptr0 (cs:=[.s n]) rfl) .nil)) .nil);exact rfl;exact rfl)|refine V ?_|refine W2 ?_ ?_<;>intro hc
 all_goals exact Dd rfl rfl (by rfl)
def Bv(h:HouseR):Prop:=Ec h.name=true/\1<=h.height/\h.height<=1048576/\h.sets.length<=60/\Ws h.roofs/\(∀s∈h.sets,Cb s/\s.high<=h.height)/\(h.sets.map SetR.name).Nodup
noncomputable instance (h:HouseR):Decidable (Bv h):=Classical.propDecidable _
def HouseR.fits(h:HouseR):Prop:=h.sets.length<=9223372036854775807/\h.roofs.length<=9223372036854775807/\∀s∈h.sets,s.fits
theorem Hn{α:Type}{p:α->Prop}[DecidablePred p]{l:List α}{k:Nat}{x:α}(hx:l[k]?=some x)(hp:p x):idx p l=(k:Int)↔¬∃y∈l.take k,p y:=by
 constructor
 ·intro h ⟨y,hy,hpy⟩
  obtain⟨i,hi⟩:=a2x hy
  have hik:i<k:=by have:=(a0f.1 hi).1;simp at this;omega
  have key:∀(l:List α)(i:Nat)(y:α),l[i]?=some y->p y->idx p l<=i:=fun l=>by
   induction l with
   |nil=>intro i y h;simp at h
   |cons a l ih=>
    intro i y h hp
    have hn:=D8 p l
    rw[idx]
    split
    ·omega
    ·cases i with
     |zero=>simp at h;subst h;contradiction
     |succ i=>
      have:=ih i y (by simpa using h) hp
      split<;>omega
  have:=key l i y (by rw[a1o hik]at hi;exact hi) hpy
  omega
 ·intro h
  exact Fk hx (fun y hy hpy=>h ⟨y,hy,hpy⟩) hp
theorem Kj(h:HouseR)(hf:h.fits):Fz 85 [A0 h.row] (.b (decide (Bv h))):=by
 obtain⟨hf1,hf2,hf3⟩:=hf
 have hle:=lmA h.sets SetR.row
 refine Fo Tryz.func85 ?_
 repeat' first|refine W ?_|refine Zc (F1 _) ?_|refine Zc (A7k h.roofs hf2) ?_|refine V ?_|refine W2 ?_ ?_<;>intro hc
 all_goals first
  |exact Dd rfl rfl (congrArg Value.bool (decide_eq_false (fun hh=>by
   obtain⟨g1,g2,g3,g4,g5,_⟩:=hh
   first|contradiction|omega)).symm)
  |skip
 have hs60:h.sets.length<=60:=by omega
 refine p0c (fun k=>k<=h.sets.length/\(∀s∈h.sets.take k,Cb s/\s.high<=h.height)/\((h.sets.take k).map SetR.name).Nodup) (fun k=>h.sets.length-k) (fun k=>[(34,.i k),(33,.i (h.sets.map SetR.row).length),(32,.sl (h.sets.map SetR.row)),(1,.ptr 0 0)]) (fun _=>[.live (h.row.map .lf)]) 0 ⟨a0k _,by simp⟩ CV (.live rfl .nil) ?_
 rintro k ⟨hk,hok,hnd⟩
 by_cases hlt:k<h.sets.length
 ·have h1:(k:Int)<((h.sets.map SetR.row).length:Nat):=by omega
  obtain⟨x,hx⟩:∃x,h.sets[k]?=some x:=⟨h.sets[k],a0b hlt⟩
  have hb:(h.sets.map SetR.row)[((k:Nat):Int).toNat]?=some (SetR.row x):=by rw[a0q,a0d,hx];rfl
  have hsn:h.sets.take (k+1)=h.sets.take k++[x]:=by rw[a0u,hx];rfl
  have hmem:x∈h.sets:=a0a hx
  have hidx:Aa h x.name=(k:Int)↔_:=Hn (p:=fun s:SetR=>s.name=x.name) hx rfl
  repeat' first|refine WY ?_|refine Zb5 ?_|refine Zbi (Gv x (hf3 x hmem)) ?_|refine Zc (Vr h x.name hf1) ?_|refine V ?_|refine W2 ?_ ?_<;>intro hc
  all_goals first
   |exact Next.go (k+1) ⟨by omega,by rw[hsn];intro y hy;rcases a0p.1 hy with hy|hy;exact hok y hy;obtain rfl:y=x:=(by simpa using hy);exact⟨by assumption,by omega⟩,by rw[hsn];exact(Ct _ _ _).2 ⟨hnd,hidx.1 (by assumption)⟩⟩ (by omega) CV (.live rfl .nil)
   |exact Dd rfl rfl (congrArg Value.bool (decide_eq_false (fun hh=>by
    obtain⟨_,_,_,_,_,g6,g7⟩:=hh
    have h3:=g6 x hmem
    have h4:=Li g7 (k+1)
    rw[hsn]at h4
    have h5:=hidx.2 ((Ct _ _ _).1 h4).2
    first|contradiction|exact absurd h3.1 (by assumption)|(have:=h3.2;omega))).symm)
 ·have h1:¬(k:Int)<((h.sets.map SetR.row).length:Nat):=by omega
  have hk2:h.sets.take k=h.sets:=a0g (by omega)
  rw[hk2]at hok hnd
  repeat' first|refine WX ?_|refine W2 ?_ ?_<;>intro hc
  exact Dd rfl rfl (congrArg Value.bool (decide_eq_true ⟨by assumption,by omega,by omega,hs60,by assumption,hok,hnd⟩).symm)
def swN(p q b:Nat):Nat:=match Nat.beq b p with|true=>q|false=>match Nat.beq b q with|true=>p|false=>b
theorem A39(p q b:Nat):swN p q b=if b=p then q else if b=q then p else b:=by
 unfold swN
 by_cases h:b=p
 ·subst h;rw[a6p,if_pos rfl]
 ·rw[show Nat.beq b p=false from Gw h,if_neg h]
  by_cases h2:b=q
  ·subst h2;rw[a6p,if_pos rfl]
  ·rw[show Nat.beq b q=false from Gw h2,if_neg h2]
theorem Hx(p q b:Nat):swN p q (swN p q b)=b:=by
 rw[A39,A39]
 split<;>split<;>(try split)<;>simp_all
def AV.sw1(p q:Nat):AV->AV
 | .ptr b o=>.ptr (swN p q b) o
 | .own b off len st=>.own (swN p q b) off len st
 | .mp b=>.mp (swN p q b)
 |x=>x
def AV.sw(p q:Nat):AV->AV
 | .agg cs=>.agg (cs.map (AV.sw1 p q))
 | .tup cs=>.tup (cs.map (AV.sw1 p q))
 | .fn f fs cs=>.fn f (fs.map (AV.sw1 p q)) (cs.map (AV.sw1 p q))
 |x=>AV.sw1 p q x
def AV.flat0:AV->Bool
 | .agg _=>false
 | .tup _=>false
 | .fn _ _ _=>false
 |_=>true
def AV.flat1:AV->Bool
 | .agg cs=>cs.all AV.flat0
 | .tup cs=>cs.all AV.flat0
 | .fn _ fs cs=>fs.all AV.flat0&&cs.all AV.flat0
 |_=>true
theorem A7i(L:Nat->Prop)(ρ:Pl)(p q:Nat):Fb L (fun b=>ρ (swN p q b))=Fb L ρ:=by
 funext k
 apply propext
 constructor
 ·rintro(h|⟨b,o,h⟩)
  ·exact .inl h
  ·exact .inr ⟨_,o,h⟩
 ·rintro(h|⟨b,o,h⟩)
  ·exact .inl h
  ·exact .inr ⟨swN p q b,o,by show ρ (swN p q (swN p q b))=_;rw[Hx];exact h⟩
theorem RelV.sw1{w:World}{L:Nat->Prop}{ρ:Pl}{x:AV}{v:Value}(p q:Nat)(h:RelV w L ρ x v)(hx:x.flat0=true):RelV w L (fun b=>ρ (swN p q b)) (x.sw1 p q) v:=by
 cases h with
 |lf x v h=>exact .lf x v (by rw[A7i];exact h)
 |agg=>cases hx
 |tup=>cases hx
 |fn=>cases hx
 |rop cs ad V hs h1 h2=>exact .rop cs ad V hs (by rw[A7i];exact h1) (by rw[A7i];exact h2)
 |ptr b off v hb h1 h=>exact .ptr _ off v (by rw[Hx];exact hb) h1 (by rw[Hx];exact h)
 |own b off len st v hb h1 h=>exact .own _ off len st v (by rw[Hx];exact hb) h1 (by rw[Hx];exact h)
 |mp b v hb h1 h=>exact .mp _ v (by rw[Hx];exact hb) h1 (by rw[Hx];exact h)
 |err t u=>exact .err t u
theorem RelV.sw{w:World}{L:Nat->Prop}{ρ:Pl}{x:AV}{v:Value}(p q:Nat)(h:RelV w L ρ x v)(hx:x.flat1=true):RelV w L (fun b=>ρ (swN p q b)) (x.sw p q) v:=by
 have key:∀{cs:List AV}{vs:List Value},(∀(i:Nat)(x:AV)(v:Value),cs[i]?=some x->vs[i]?=some v->RelV w L ρ x v)->cs.all AV.flat0=true->∀(i:Nat)(x:AV)(v:Value),(cs.map (AV.sw1 p q))[i]?=some x->vs[i]?=some v->RelV w L (fun b=>ρ (swN p q b)) x v:=fun {cs vs} h hx i x v h1 h2=>by
  rw[a0d]at h1
  cases hc:cs[i]? with
  |none=>rw[hc]at h1;cases h1
  |some y=>
   rw[hc]at h1
   injection h1 with h1
   subst h1
   exact(h i y v hc h2).sw1 p q (a0l.1 hx y (a0a hc))
 cases h with
 |agg cs vs hl h=>exact .agg _ vs (by rw[a0e];exact hl) (key h hx)
 |tup cs vs hl h=>exact .tup _ vs (by rw[a0e];exact hl) (key h hx)
 |fn f fs cs us vs hl hm h k=>
  have hx':fs.all AV.flat0=true/\cs.all AV.flat0=true:=by simpa[AV.flat1]using hx
  exact .fn f _ _ us vs (by rw[a0e];exact hl) (by rw[a0e];exact hm) (key h hx'.1) (key k hx'.2)
 |lf x v h=>exact RelV.sw1 p q (.lf x v h) rfl
 |rop cs ad V hs h1 h2=>exact RelV.sw1 p q (.rop cs ad V hs h1 h2) rfl
 |ptr b off v hb h1 h=>exact RelV.sw1 p q (.ptr b off v hb h1 h) rfl
 |own b off len st v hb h1 h=>exact RelV.sw1 p q (.own b off len st v hb h1 h) rfl
 |mp b v hb h1 h=>exact RelV.sw1 p q (.mp b v hb h1 h) rfl
 |err t u=>exact .err t u
def HB.sw(p q:Nat):HB->HB
 | .live cs=>.live (cs.map (AV.sw p q))
 | .gho cs vs=>.gho (cs.map (AV.sw p q)) vs
 |x=>x
def HB.plain:HB->Bool
 | .free=>true
 | .dead=>true
 | .live cs=>cs.all AV.flat1
 | .gho cs _=>cs.all AV.flat1
 |_=>false
def AH.sw(p q:Nat)(H:AH):AH:=(List.range H.length).map fun b=>(H.at (swN p q b)).sw p q
def Tm.sw(p q:Nat)(tm:Tm):Tm:=tm.map fun x=>(x.1,x.2.sw p q)
theorem Ah9{p q n b:Nat}(hp:p<n)(hq:q<n)(hb:n<=b):swN p q b=b:=by
 rw[A39,if_neg (by omega),if_neg (by omega)]
theorem p1y{p q:Nat}{H:AH}(hp:p<H.length)(hq:q<H.length)(b:Nat):(AH.sw p q H).at b=(H.at (swN p q b)).sw p q:=by
 unfold AH.sw
 by_cases hb:b<H.length
 ·unfold AH.at
  rw[a0i,a0d,a2u hb];rfl
 ·rw[Ah9 hp hq (by omega)]
  unfold AH.at
  rw[a0i,a0v (by rw[a0e,a3o];omega),a0i,a0v (by omega)];rfl
theorem p1j{H:AH}(h:H.all HB.plain=true)(b:Nat):(H.at b).plain=true:=by
 unfold AH.at
 rw[a0i]
 cases hb:H[b]? with
 |none=>rfl
 |some x=>exact a0l.1 h x (a0a hb)
theorem p3y(p q:Nat):∀(tm:Tm)(t:Nat),(Tm.sw p q tm).get t=(tm.get t).map (AV.sw p q)
 |[],t=>rfl
 |(k,v)::r,t=>by
  show Tm.get ((k,v.sw p q)::Tm.sw p q r) t=_
  rw[p0w,p0w,p3y p q r t]
  split<;>rfl
theorem RelH.sw{w:World}{L:Nat->Prop}{ρ:Pl}{H:AH}{p q:Nat}(hp:p<H.length)(hq:q<H.length)(hpl:H.all HB.plain=true)(h:RelH w L ρ H):RelH w L (fun b=>ρ (swN p q b)) (AH.sw p q H) where
 free b hb:=by
  rw[p1y hp hq]at hb
  refine h.free _ ?_
  have h2:=p1j hpl (swN p q b)
  generalize H.at (swN p q b)=x at*
  cases x<;>first|rfl|(cases hb;done)|(cases h2;done)
 dead b hb:=by
  rw[p1y hp hq]at hb
  refine h.dead _ ?_
  have h2:=p1j hpl (swN p q b)
  generalize H.at (swN p q b)=x at*
  cases x<;>first|rfl|(cases hb;done)|(cases h2;done)
 live b cells hb:=by
  rw[p1y hp hq]at hb
  have h2:=p1j hpl (swN p q b)
  cases hx:H.at (swN p q b)with
  |live cs=>
   rw[hx]at hb h2
   injection hb with hb
   subst hb
   obtain⟨k,o,c,e,lo,hi,h3,h4,h5,h6,h7,h8⟩:=h.live _ cs hx
   refine⟨k,o,c,e,lo,hi,h3,h4,h5,by rw[a0e];exact h6,h7,fun j x hj=>?_⟩
   rw[a0d]at hj
   cases hc:cs[j]? with
   |none=>rw[hc]at hj;cases hj
   |some y=>
    rw[hc]at hj
    injection hj with hj
    subst hj
    obtain⟨v,h9,h10⟩:=h8 j y hc
    exact⟨v,h9,h10.sw p q (a0l.1 h2 y (a0a hc))⟩
  |_=>rw[hx]at hb;cases hb
 map b es hb:=by
  rw[p1y hp hq]at hb
  have h2:=p1j hpl (swN p q b)
  generalize H.at (swN p q b)=x at*
  cases x<;>first|(cases hb;done)|(cases h2;done)
 dist b b' k o o' h1 h2:=by
  have:=h.dist _ _ k o o' h1 h2
  have h3:=congrArg (swN p q) this
  rwa[Hx,Hx]at h3
 ext:=by
  have key:∀b,((AH.sw p q H).at b).plain=true:=fun b=>by
   rw[p1y hp hq]
   have h2:=p1j hpl (swN p q b)
   generalize H.at (swN p q b)=x at*
   have h3:∀y:AV,y.flat1=true->(y.sw p q).flat1=true:=fun y hy=>by
    have h4:∀cs:List AV,cs.all AV.flat0=true->(cs.map (AV.sw1 p q)).all AV.flat0=true:=fun cs hcs=>by
     rw[a9w,a0l]
     intro z hz
     have:=a0l.1 hcs z hz
     cases z<;>first|rfl|(cases this;done)
    cases y<;>first|rfl|exact h4 _ hy|(have hy':=hy;simp only[AV.flat1,a0w]at hy';show(_&&_)=true;rw[h4 _ hy'.1,h4 _ hy'.2];rfl)
   cases x<;>first|rfl|(cases h2;done)|(show List.all (List.map _ _) _=true;rw[a9w,a0l];intro z hz;exact h3 z (a0l.1 h2 z hz))
  refine⟨fun b T e b2 s hb=>?_,fun b hb=>?_,fun b b' T e T' e' b2 s s' hb=>?_,fun b k o cs hb=>?_,fun b cs vs hb=>?_⟩
  rotate_right
  ·rw[p1y hp hq]at hb
   have h2:=p1j hpl (swN p q b)
   cases hx:H.at (swN p q b)with
   |gho cs0 vs0=>
    rw[hx]at hb h2
    injection hb with hb hb2
    subst hb hb2
    obtain⟨g1,g2,g3⟩:=h.ext.gho _ cs0 _ hx
    refine⟨g1,by rw[a0e];exact g2,fun i x v hi hv=>?_⟩
    rw[a0d]at hi
    cases hc:cs0[i]? with
    |none=>rw[hc]at hi;cases hi
    |some y=>
     rw[hc]at hi
     injection hi with hi
     subst hi
     exact(g3 i y v hc hv).sw p q (a0l.1 h2 y (a0a hc))
   |_=>rw[hx]at hb;cases hb
  all_goals(have h2:=key b;rw[hb]at h2;cases h2)
section
variable {P:Program}{N:Nat}{tm:Tm}{H:AH}
theorem RelSt.sw{E:Env}{a:Act}{w:World}{ρ:Pl}{p q:Nat}(hp:p<H.length)(hq:q<H.length)(hpl:H.all HB.plain=true)(ht:tm.all (fun x=>x.2.flat1)=true)(h:RelSt E ⟨tm,H⟩ a w ρ):RelSt E ⟨Tm.sw p q tm,AH.sw p q H⟩ a w (fun b=>ρ (swN p q b)) where
 size:=h.size
 defers:=h.defers
 tm t x hx:=by
  have hx':((tm.get t).map (AV.sw p q))=some x:=by rw[<-p3y];exact hx
  cases hg:tm.get t with
  |none=>rw[hg]at hx';cases hx'
  |some y=>
   rw[hg]at hx'
   injection hx' with hx'
   subst hx'
   obtain⟨h1,h2⟩:=h.tm t y hg
   refine⟨h1,h2.sw p q ?_⟩
   clear h2 h hx
   induction tm with
   |nil=>cases hg
   |cons z r ih=>
    obtain⟨k,v⟩:=z
    rw[p0w]at hg
    simp only[a6r,a0w]at ht
    split at hg
    ·injection hg with hg;subst hg;exact ht.1
    ·exact ih ht.2 hg
 H:=h.H.sw hp hq hpl
 fr:=h.fr
 mine b k o hb:=by
  rcases h.mine _ k o hb with⟨h1,h2⟩|h1
  ·refine .inl ⟨h1,?_⟩
   show((AH.sw p q H).at b).isExt=false
   rw[p1y hp hq]
   have h3:=p1j hpl (swN p q b)
   generalize H.at (swN p q b)=x at*
   cases x<;>first|rfl|(cases h3;done)
  ·exact .inr h1
 lim:=h.lim
theorem p6m(p q:Nat){c:Code}{Q:Exit->St->Prop}(h:T P N c ⟨Tm.sw p q tm,AH.sw p q H⟩ Q)(hp:p<H.length:=by decide)(hq:q<H.length:=by decide)(hpl:H.all HB.plain=true:=by rfl)(ht:tm.all (fun x=>x.2.flat1)=true:=by rfl):T P N c ⟨tm,H⟩ Q:=
 ⟨fun E a w ρ hE hR=>h.out E a w _ hE (hR.sw hp hq hpl ht)⟩
end
section
variable {P:Program}{N:Nat}{ops:Array Oper}{m:Option Nat}{K:Tm->AH->Prop}{tm tm':Tm}{H:AH}{rest:List Oper}{ty:TypeId}{pos:String}{af:Array Edge}{d:Nat}{t e:TypeId}{x y:Operand}
theorem A6w{n nb len b:Nat}{b2 m2:Nat}{cells ys:List AV}{zv:Value}[hu:HasU P t (.slice e)][hi:HasS P e n][hz:HasZ P e zv][hby:HasB P e nb]{E:Env}{a:Act}{w:World}{ρ:Pl}{K':Act->World->Prop}{Q:Exit->Act->World->Prop}
  (hR:RelSt E ⟨tm,H⟩ a w ρ) (hx:evT tm x=some (.own b 0 len n)) (hb:H.at b=.live cells) (hc:cells.length=len*n) (hy:evT tm y=some (.own b2 0 m2 n)) (hb2:H.at b2=.live ys) (hyl:ys.length=m2*n) (hn1:Nat.ble 1 n=true)
  (h1:ys.all AV.one=true) (hycl:ys.all (AV.clear b)=true) (hzs:Nat.beq zv.cells.size n=true)
  (hfit:(len+m2)*nb<=140737488355328) (hlen:len+m2<=9223372036854775807)
  (htm:tm.clearO b=some tm') (hH:AH.clear b 0 H=true) (hcl:cells.all (AV.clear b)=true)
  (hK:∀w' ρ' v,RelSt E ⟨tm',H.put b (.live (cells++ys))⟩ a w' ρ'->RelV w' E.L ρ' (.own b 0 (len+m2) n) v->K' (a.put (some d) v) w'):
  Oper.wp P ⟨some d,.call ⟨.builtin .append, #[x,y], #[t,t]⟩,ty,pos,af,none⟩ a w K' Q:=by
 have hxv:RelV w E.L ρ (.own b 0 len n) (a.eval x):=hR.ev (by rw[Am];exact hx)
 have hyv:RelV w E.L ρ (.own b2 0 m2 n) (a.eval y):=hR.ev (by rw[Am];exact hy)
 obtain⟨k,o,c,el,lo,hi',g1,g2,g3,g4,g5,g6⟩:=hR.H.live b cells hb
 obtain⟨cap,e2,n2,hxe,hcap,hsh,hfitc⟩:=hxv.own_out k o g1
 have hn1':=a0c hn1
 obtain⟨k2,o2,c2,el2,lo2,hi2',v1,v2,v3,v4,v5,v6⟩:=hR.H.live b2 ys hb2
 obtain⟨cap2,e3,n3,hye,hcap2,hsh2,hfitc2⟩:=hyv.own_out k2 o2 v1
 rw[a3b]at hye
 obtain⟨news,hnews⟩:∃l,l=(List.range (m2*n)).map fun j=>c2.getD (o2+j) undef:=⟨_,rfl⟩
 have hnat:∀(j:Nat)(z:AV),ys[j]?=some z->∃u,news[j]?=some u/\c2[o2+j]?=some u/\RelV w E.L ρ z u:=fun j z hz=>by
  obtain⟨u,p1,p2⟩:=v6 j z hz
  have hjl:j<m2*n:=by rw[<-hyl];exact(a0f.1 hz).1
  refine⟨u,?_,p1,p2⟩
  rw[hnews,a0d,a2u hjl]
  simp only[a1g,a0r,p1,a1a]
 have q1:news.length=m2*n:=by rw[hnews,a0e,a3o]
 have hnj:∀(j:Nat)(u:Value),news[j]?=some u->∃z,ys[j]?=some z/\c2[o2+j]?=some u/\RelV w E.L ρ z u:=fun j u hu'=>by
  have hjl:j<ys.length:=by rw[hyl,<-q1];exact(a0f.1 hu').1
  obtain⟨z,hz'⟩:∃z,ys[j]?=some z:=⟨_,a0b hjl⟩
  obtain⟨u',p0,p1,p2⟩:=hnat j z hz'
  rw[hu']at p0
  injection p0 with p0
  subst p0
  exact⟨z,hz',p1,p2⟩
 have q2:∀u∈news,u.oneCell'=true:=fun u hu'=>by
  obtain⟨j,hj⟩:=a2x hu'
  obtain⟨z,p0,p1,p2⟩:=hnj j u hj
  exact p2.one (a0l.1 h1 z (a0a p0))
 have q3:∀(j:Nat)(x:AV),ys[j]?=some x->∃u,news[j]?=some u/\RelV w E.L ρ x u:=fun j x hx'=>by
  obtain⟨u,p0,p1,p2⟩:=hnat j x hx'
  exact⟨u,p0,p2⟩
 have hcellsv:∀(j:Nat)(v:Value),news[j]?=some v->w.cell? ((⟨k2,o2,none⟩:Addr).add j)=some v:=fun j v hj=>by
  obtain⟨z,p0,p1,p2⟩:=hnj j v hj
  rw[Bf rfl]
  exact Bi v2 p1
 obtain⟨i,hi1,hi2⟩:∃i,P.info? e=some i/\i.size=n:=by
  have:=hi.out
  cases hh:P.info? e with
  |none=>rw[hh]at this;cases this
  |some i=>rw[hh]at this;exact⟨i,rfl,by simpa using this⟩
 have hi3:i.bytes=nb:=by have:=hby.out;rw[hi1]at this;simpa using this
 have hi4:i.zero=some zv:=by have:=hz.out;rw[hi1]at this;simpa using this
 have hzs':=a2b hzs
 rw[a3b]at hxe
 rw[a3b]at hfitc
 have hcs:n2=c.size:=by
  have hsh':=hsh
  unfold World.shape? at hsh'
  rw[g2]at hsh'
  simp at hsh'
  exact hsh'.2.symm
 --the new cells
 have hnew:∀(j:Nat)(z:AV),(cells++ys)[j]?=some z->(j<len*n/\cells[j]?=some z)\/(len*n<=j/\∃x,z=x/\ys[j-len*n]?=some x):=fun j z hj=>by
  rcases a0y j cells.length with hlt|hge
  ·rw[a1k hlt]at hj
   exact .inl ⟨by omega,hj⟩
  ·rw[a1h hge,hc]at hj
   exact .inr ⟨by omega,z,rfl,hj⟩
 have hmapn:(H.at b).ord=true:=by rw[hb];rfl
 have fin:∀(w':World)(k' o' cap':Nat)(c':Array Value)(e':TypeId)(lo' hi'':Nat),
   (execOp a.eval ⟨some d,.call ⟨.builtin .append, #[x,y], #[t,t]⟩,ty,pos,af,none⟩).run P w=.ok (.value (.slice (some ⟨k',o',none⟩) (len+m2) cap')) w'->
   w'.heap[k']?=some (.cells c' e' (lo',hi''))->hi''<=lo'->len+m2<=cap'->o'+cap'*n<=c'.size->((∃o,ρ b=some (some (k',o)))\/w.heap.size<=k')->
   (∀k,k<w.heap.size->k≠k'->w'.heap[k]?=w.heap[k]?)->(∀k x,w.shape? k=some x->w'.shape? k=some x)->w'.os=w.os->w'.tape=w.tape->w'.output=w.output->w.heap.size<=w'.heap.size->
   (∀j,j<len*n->c'[o'+j]?=c[o+j]?)->(∀j,j<m2*n->c'[o'+len*n+j]?=news[j]?)->Oper.wp P ⟨some d,.call ⟨.builtin .append, #[x,y], #[t,t]⟩,ty,pos,af,none⟩ a w K' Q:=fun w' k' o' cap' c' e' lo' hi'' hrun r1 r2 r3 r4 r5 r6 r7 r8 r9 r10 r11 r12 r13=>by
  have hsz:o'+(cells++ys).length<=c'.size:=by
   rw[a0s,hyl,hc,<-a3u]
   exact a2d (b2y (a3k _ r3) _) r4
  obtain⟨s1,s2⟩:=hR.regrow (tm':=tm') (cells':=cells++ys) htm hH hmapn r1 r2 hsz r5 r6 r7 r8 r9 r10 r11 fun hla j z hj=>by
   rcases hnew j z hj with⟨hj1,hj2⟩|⟨hj1,x,rfl,hj2⟩
   ·obtain⟨v,p1,p2⟩:=g6 j z hj2
    exact⟨v,by rw[r12 j hj1];exact p1,p2.laterX hla (a0l.1 hcl z (a0a hj2))⟩
   ·obtain⟨u,p1,p2⟩:=q3 _ _ hj2
    have hjl:j-len*n<m2*n:=by rw[<-hyl];exact(a0f.1 hj2).1
    have:=r13 (j-len*n) hjl
    rw[show o'+len*n+(j-len*n)=o'+j by omega]at this
    exact⟨u,by rw[this];exact p1,p2.laterX hla (a0l.1 hycl _ (a0a hj2))⟩
  unfold Oper.wp
  rw[hrun]
  refine hK _ _ _ s2 ?_
  refine .own b 0 _ n _ (by unfold Pl.upd;rw[if_pos rfl];simp) rfl fun k2 o2 hk2=>?_
  unfold Pl.upd at hk2
  rw[if_pos rfl]at hk2
  simp only[a0h,a1p]at hk2
  obtain⟨rfl,rfl⟩:=hk2
  exact⟨cap',e',c'.size,rfl,r3,by unfold World.shape?;rw[r1],r4⟩
 have hexec:∀{v:Value}{w':World},(Builtin.append_ #[t,t] ty #[a.eval x,a.eval y]).run P w=.ok v w'->(execOp a.eval ⟨some d,.call ⟨.builtin .append, #[x,y], #[t,t]⟩,ty,pos,af,none⟩).run P w=.ok (.value v) w':=fun {v w'} hh=>by
  unfold execOp
  simp only[resolve,invoke,builtin,a0t,a1m,a0o,b0i,a2g,a6o,hh]
 have inplace:∀(v:Value),a.eval y=v->(∃ax cx,v=.slice ax m2 cx)->(Builtin.firstCells n m2 v).run P w=.ok news.toArray w->len+m2<=cap->Oper.wp P ⟨some d,.call ⟨.builtin .append, #[x,y], #[t,t]⟩,ty,pos,af,none⟩ a w K' Q:=fun v hv ⟨ax,cx,hvs⟩ hf hroom=>by
  have hroomn:len*n+m2*n<=cap*n:=by rw[<-a3u];exact a3k _ hroom
  obtain⟨c',w',f1,f2,f3,f4,f5,f6,f7,f8,f9,f10⟩:=Hw (P:=P) (k:=k) (off:=o+len*n) g3 news 0 c w g2 (by rw[q1];omega) q2
  refine fin w' k o cap c' el lo hi' (hexec ?_) f2 g3 hroom (by rw[f3];omega) (.inl ⟨o,g1⟩) (fun k2 _ hk2=>f5 k2 hk2) f6 f7 f8 f9 (by omega) (fun j hj=>?_) fun j hj=>?_
  ·rw[hxe,hv,hvs]
   rw[hvs]at hf
   simp[Builtin.append_,run_underlying hu.out,sizeOf,typeInfo,hi1,hi2,Builtin.lenOf,hroom,hf,Bf,f1]
  ·rw[f4,if_neg (by omega)]
  ·rw[f4,if_pos (by rw[q1];omega)]
   congr 1
   omega
 have hv:=hye
 let ad:Addr:=⟨k2,o2,none⟩
 let cx:=cap2
 ·have hf:(Builtin.firstCells n m2 (.slice (some ad) m2 cx)).run P w=.ok news.toArray w:=run_firstCells_some (P:=P) w n m2 ad m2 cx news q1 hcellsv
  rcases a0y cap (len+m2)with hgrow|hroom
  ·have holds:∀(j:Nat)(v:Value),((List.range (len*n)).map fun j=>c.getD (o+j) undef)[j]?=some v->w.cell? ((⟨k,o,none⟩:Addr).add j)=some v:=fun j v hj=>by
    have hjl:j<len*n:=by
     have:=(a0f.1 hj).1
     simpa using this
    obtain⟨z,hz'⟩:∃z,cells[j]?=some z:=⟨_,a0b (by omega)⟩
    obtain⟨u,p1,_⟩:=g6 j z hz'
    rw[a0d,a2u hjl]at hj
    simp only[a1g,a0h]at hj
    rw[Bf rfl]
    rw[a0r,p1]at hj
    simp only[a1a]at hj
    subst hj
    exact Bi g2 p1
   have hr':=run_append_grow (P:=P) w t ty e i zv hu.out hi1 hi4 ⟨k,o,none⟩ len cap ((List.range (len*n)).map fun j=>c.getD (o+j) undef) (by simp[hi2]) holds ad m2 cx news (by rw[hi2];exact q1) hcellsv hgrow (by omega) (growslice_fits hgrow (by rw[hi3];exact hfit))
   have hge:=Hm w (len+m2) cap e
   refine fin _ w.heap.size 0 _ _ e 0 0 (hexec (by rw[hxe,hv];exact hr')) (Bz w.drew _) (a0n _) hge ?_ (.inr (a0n _)) (fun k2 hk2 _=>Ap w.drew _ hk2) (fun k2 x hx=>by rw[Cn (Ap w.drew _ (Ga hx))];exact hx) rfl rfl rfl (by simp) (fun j hj=>?_) fun j hj=>?_
   ·simp only[a7d,a9t,a0e,a3o,q1,Builtin.zeroCells,b1a,b0f,hzs',a1n]
    rw[<-a3u,<-a3u,a9d hge]
    exact a0n _
   ·obtain⟨z,hz'⟩:∃z,cells[j]?=some z:=⟨_,a0b (by omega)⟩
    obtain⟨u,p1,_⟩:=g6 j z hz'
    rw[a1n,a1r (by simp;omega),a1r (by simpa using hj)]
    simp[hj,p1,a0r]
   ·rw[a1n,a1r (by simp;omega),b0n (by simp)]
    simp
  ·exact inplace _ hv ⟨some ad,cx,rfl⟩ hf hroom
theorem p4n{n nb len b:Nat}{b2 m2:Nat}{cells ys:List AV}{zv:Value}[hu:HasU P t (.slice e)][hi:HasS P e n][hz:HasZ P e zv][hby:HasB P e nb]
  (hx:evT tm x=some (.own b 0 len n)) (hb:H.at b=.live cells) (hy:evT tm y=some (.own b2 0 m2 n)) (hb2:H.at b2=.live ys) (htm:tm.clearO b=some tm') (hH:AH.clear b 0 H=true) (hn1:Nat.ble 1 n=true) (hzs:Nat.beq zv.cells.size n=true) (hN:LN d N)
  (hc:cells.length=len*n) (hyl:ys.length=m2*n) (h1:ys.all AV.one=true) (hycl:ys.all (AV.clear b)=true) (hcl:cells.all (AV.clear b)=true)
  (hfit:(len+m2)*nb<=140737488355328) (hlen:len+m2<=9223372036854775807)
  (h:Reg none P N ops rest ((d,.own b 0 (len+m2) n)::tm') (H.put b (.live (cells++ys))) K):
  Reg none P N ops (⟨some d,.call ⟨.builtin .append, #[x,y], #[t,t]⟩,ty,pos,af,none⟩::rest) tm H K:=by
 refine⟨fun E a w ρ hE hR=>?_⟩
 replace h:=h.out
 refine wpList_plain rfl fun K' hK=>?_
 exact A6w hR hx hb hc hy hb2 hyl hn1 h1 hycl hzs hfit hlen htm hH hcl fun w' ρ' v s2 hv=>hK _ _ (h E _ w' ρ' hE (s2.put (by rw[hE];exact a0c hN) hv))
end
def Afo(ops:Array Oper)(n:Nat):Bool:=
 (List.range ops.size).all fun t=>decide (t<=n)||(List.range t).any fun j=>decide (n<=j)&&Region.waitsFor .any ops t j
def A6l(ops:Array Oper)(n:Nat):Bool:=decide (n=ops.size)||(decide (n<ops.size)&&Region.sinkB .any ops n&&Afo ops n)
theorem A4j{ops:Array Oper}{n:Nat}{listed:Array Bool}(hs:Region.sinkB .any ops n=true)(hc:Afo ops n=true)(hn:n<ops.size)(inv:HeadInv .any ops n listed):
  ∀(d i:Nat),n-i=d->i<n->listed.getD i true=false->∀t,n<=t->t∉Region.ready .any ops listed:=by
 intro d
 induction d using Nat.strongRecOn with
 |_ d ih=>
  intro i hd hi hun t ht hr
  obtain⟨_,ot,hot,hall⟩:=mem_ready.1 hr
  have htlt:t<ops.size:=(a6g.1 hot).1
  by_cases htn:t=n
  ·subst htn
   have h1:=a0l.1 hs i (a2n.2 hi)
   obtain⟨j,hj,hj2⟩:=List.any_eq_true.1 h1
   simp only[a0w,decide_eq_true_eq]at hj2
   obtain⟨oj,hoj,e,he,hb,hon⟩:=b2l hj2.2
   have hjle:j<=t:=by have:=a2n.1 hj;omega
   by_cases hjt:j=t
   ·subst hjt
    have:oj=ot:=Option.some.inj (hoj.symm.trans hot)
    subst this
    have h2:=hall e he hb
    rw[hon,getD_both hun]at h2
    cases h2
   ·cases hl:listed.getD j false with
    |true=>
     have h2:=inv.closed j oj hoj hl e he hb
     rw[hon,getD_both hun]at h2
     cases h2
    |false=>
     have hjs:j<listed.size:=by rw[inv.size];omega
     exact ih (t-j) (by omega) j rfl (by omega) (getD_in hjs hl) t (a0n _) hr
  ·have h1:=a0l.1 hc t (a2n.2 htlt)
   simp only[a5k,decide_eq_true_eq]at h1
   rcases h1 with h1|h1
   ·omega
   ·obtain⟨j,hj,hj2⟩:=List.any_eq_true.1 h1
    simp only[a0w,decide_eq_true_eq]at hj2
    have hjt:=a2n.1 hj
    obtain⟨o',ho',e,he,hb,hon⟩:=b2l hj2.2
    have:o'=ot:=Option.some.inj (ho'.symm.trans hot)
    subst this
    have h2:=hall e he hb
    rw[hon,getD_both (inv.tail j (by omega) (by omega))]at h2
    cases h2
def Ls(ops:Array Oper)(n:Nat):Bool:=A72 ops (Region.before ops) n&&A4w ops n&&Wd ops (Region.before ops) n&&A14 ops (Region.before ops) n&&A8d ops (Region.before ops) n&&A6l ops n&&decide (n<=ops.size)
section
variable {P:Program}{N n0:Nat}{ops:Array Oper}{tm0:Tm}{H0:AH}
theorem Yi{tr:List Sp}{n:Nat}{E:Env}(F:Mt P N n0 ops tr tm0 H0 n)(hB:Ls ops n=true)(hE:E.N=N){Q:Exit->Act->World->Prop}
  (hfin:∀a w,(∃tm H ρ,RelSt E ⟨tm,H⟩ a w ρ/\(∀t,tm.get t=wr ops tr tm0 E7 t n)/\∀b,H.at b=hp tr H0 E7 b n)->wpAny P .any ops Q (ops.size-n) ((Array.range ops.size).map fun i=>decide (i<n)) a w):∀(c:Nat)(listed:Array Bool)(a:Act)(w:World),cnt listed n=c->HeadInv .any ops n listed->AtS E ops tr tm0 H0 n listed a w->wpAny P .any ops Q (c+(ops.size-n)) listed a w:=by
 simp only[Ls,a0w,decide_eq_true_eq]at hB
 obtain⟨⟨⟨⟨⟨⟨hcal,hed⟩,hpre⟩,hconf⟩,hsto⟩,htail⟩,hn⟩:=hB
 intro c
 induction c with
 |zero=>
  intro listed a w hc inv hA
  have hall:=Om n hc
  have N3:listed=(Array.range ops.size).map fun i=>decide (i<n):=by
   apply Array.ext
   ·simp[inv.size]
   ·intro i h1 h2
    simp only[Array.getElem_map,b2m]
    by_cases hi:i<n
    ·have:=hall i hi
     rw[a0r,a2e h1]at this
     simpa[hi]using this
    ·have:=inv.tail i (by omega) (by rw[<-inv.size];exact h1)
     rw[a0r,a2e h1]at this
     simpa[hi]using this
  rw[a1n,N3]
  ·obtain⟨tm,H,ρ,hr,h1,h2⟩:=hA
   refine hfin a w ⟨tm,H,ρ,hr,fun t=>?_,fun b=>?_⟩
   ·rw[h1 t];exact Kb n fun i hi _=>hall i hi
   ·rw[h2 b];exact Jw n fun i _ hi _=>hall i hi
 |succ c ih=>
  intro listed a w hc inv hA
  obtain⟨k,hk,hku,hkl⟩:=X9 n (by omega:cnt listed n≠0)
  have hkt:listed.getD k true=false:=getD_in (by rw[inv.size];omega) hku
  have hready:k∈Region.ready .any ops listed:=by
   refine mem_ready.2 ⟨hkt,?_⟩
   have h1:=a0l.1 hed k (a2n.2 hk)
   cases e:ops[k]? with
   |none=>rw[e]at h1;cases h1
   |some o=>
    rw[e]at h1
    refine⟨o,rfl,fun x hx hb=>?_⟩
    have h2:=a9o.1 h1 x hx
    rw[hb]at h2
    simp only[a4r,a5c]at h2
    exact hkl _ (a0c h2)
  rw[show c+1+(ops.size-n)=(c+(ops.size-n))+1 by omega]
  refine⟨(fun h=>by rw[h]at hready;cases hready),fun i hi=>?_⟩
  have hin:i<n:=by
   rcases a0y i n with h|h
   ·exact h
   ·simp only[A6l,a5k,a0w,decide_eq_true_eq]at htail
    rcases htail with h1|⟨⟨h1,h2⟩,h3⟩
    ·obtain⟨_,o,ho,_⟩:=mem_ready.1 hi
     have:=(a6g.1 ho).1
     omega
    ·exact absurd hi (A4j h2 h3 h1 inv _ k rfl hk hkt i h)
  have hiu:listed.getD i false=false:=getD_both (mem_ready.1 hi).1
  refine wpOp_mono (fun a' w' hA'=>ih _ a' w' ?_ (inv.set hi hin) hA') (Yj rfl F hpre hconf hsto hcal hn hE inv hin hi hA)
  have:=Xa (listed:=listed) (j:=i) (by rw[inv.size];omega) hiu n
  rw[if_pos hin]at this
  omega
theorem p5w(n0:Nat){id:Nat}{l:List Oper}{y:Code}{Q:Exit->St->Prop}{tm:Tm}{H:AH}(n:Nat)(hm:P.follows .mixedOrders=true)(hB:Ls l.toArray n=true)
  (h:Reg (some n0) P N l.toArray (l.take n) tm H (Ords P N l.toArray (fun tm H=>T P N y ⟨tm,H⟩ Q) (l.toArray.size-n) ((Array.range l.toArray.size).map fun i=>decide (i<n)))):T P N (.seq (.region id l.toArray true) y) ⟨tm,H⟩ Q:=by
 refine T.seq ⟨fun E a w ρ hE hr=>?_⟩
 obtain⟨ss,hok,hK⟩:=h.out
 have hn:n<=l.length:=by simp only[Ls,a0w,decide_eq_true_eq]at hB;simpa using hB.2
 have htl:(l.take n).length=n:=by simp;omega
 obtain⟨h1,h2,h3,h4⟩:=O0 (ops:=l.toArray) (tm0:=tm) (H0:=H) (tr:=ss) (l.take n) ss 0 tm H (fun j hj=>by rw[htl]at hj;simp[hj]) (fun j _=>by simp) hok (fun t=>rfl) (fun b=>rfl)
 have F:Mt P N n0 l.toArray ss tm H n:=fun j hj=>by
  obtain⟨o,s,tmj,Hj,g⟩:=h2 j (by rw[htl];exact hj)
  rw[a1n]at g
  exact⟨o,s,tmj,Hj,g⟩
 rw[htl,a1n]at h3 h4
 have hr':RelSt E ⟨tm,H⟩ a {w with drawn:=w.drawn+1} ρ:=hr.below ⟨rfl,rfl,rfl,a0n _,fun _ _=>rfl⟩
 have hrep:∀i,(Array.replicate l.toArray.size false).getD i false=false:=fun i=>getD_replicate_false _ _
 have hcnt:cnt (Array.replicate l.toArray.size false) n=n:=by
  have:∀k,cnt (Array.replicate l.toArray.size false) k=k:=fun k=>by
   induction k with
   |zero=>rfl
   |succ k ih=>simp only[cnt,hrep,ih];simp
  exact this n
 refine wp_mono (wp_region_any hm ?_ (Q:=Qg (fun tm H=>T P N y ⟨tm,H⟩ Q) E)) ?_
 ·have key:=Yi (ops:=l.toArray) (tr:=ss) (n:=n) (E:=E) F hB hE (Q:=Qg (fun tm H=>T P N y ⟨tm,H⟩ Q) E) (fun a w ⟨tm',H',ρ',g1,g2,g3⟩=>by
   have g4:RelSt E ⟨N0 (l.take n) ss tm,Qo ss H⟩ a w ρ':=(g1.weaken _ fun t x hx=>by rw[g2 t,<-h3 t];exact hx).sameH fun b=>by rw[h4 b,<-g3 b]
   exact hK.out E a w ρ' hE g4) n _ a {w with drawn:=w.drawn+1} hcnt ⟨by simp,(fun j oj _ hl=>by rw[hrep]at hl;cases hl),(fun t _ ht=>getD_in (by simpa using ht) (hrep t))⟩ ⟨tm,H,ρ,hr',fun t=>?_,fun b=>?_⟩
  ·rw[show n+(l.toArray.size-n)=l.toArray.size by simp;omega]at key
   exact key
  ·rw[J4 (k:=0) n (by omega) fun i _ _ _=>hrep i];rfl
  ·exact(Gk n fun i _ _ _=>hrep i).symm
 ·rintro e a' w' ⟨rfl,st',ρ',g1,g2⟩
  exact⟨st',ρ',g1,g2⟩
theorem p5j(n0:Nat){id:Nat}{l:List Oper}{Q:Exit->St->Prop}{tm:Tm}{H:AH}(n:Nat)(hm:P.follows .mixedOrders=true)(hB:Ls l.toArray n=true)
  (h:Reg (some n0) P N l.toArray (l.take n) tm H (Ords P N l.toArray (fun tm H=>Q .normal ⟨tm,H⟩) (l.toArray.size-n) ((Array.range l.toArray.size).map fun i=>decide (i<n)))):T P N (.region id l.toArray true) ⟨tm,H⟩ Q:=by
 refine⟨fun E a w ρ hE hr=>?_⟩
 obtain⟨ss,hok,hK⟩:=h.out
 have hn:n<=l.length:=by simp only[Ls,a0w,decide_eq_true_eq]at hB;simpa using hB.2
 have htl:(l.take n).length=n:=by simp;omega
 obtain⟨h1,h2,h3,h4⟩:=O0 (ops:=l.toArray) (tm0:=tm) (H0:=H) (tr:=ss) (l.take n) ss 0 tm H (fun j hj=>by rw[htl]at hj;simp[hj]) (fun j _=>by simp) hok (fun t=>rfl) (fun b=>rfl)
 have F:Mt P N n0 l.toArray ss tm H n:=fun j hj=>by
  obtain⟨o,s,tmj,Hj,g⟩:=h2 j (by rw[htl];exact hj)
  rw[a1n]at g
  exact⟨o,s,tmj,Hj,g⟩
 rw[htl,a1n]at h3 h4
 have hr':RelSt E ⟨tm,H⟩ a {w with drawn:=w.drawn+1} ρ:=hr.below ⟨rfl,rfl,rfl,a0n _,fun _ _=>rfl⟩
 have hrep:∀i,(Array.replicate l.toArray.size false).getD i false=false:=fun i=>getD_replicate_false _ _
 have hcnt:cnt (Array.replicate l.toArray.size false) n=n:=by
  have:∀k,cnt (Array.replicate l.toArray.size false) k=k:=fun k=>by
   induction k with
   |zero=>rfl
   |succ k ih=>simp only[cnt,hrep,ih];simp
  exact this n
 refine wp_mono (wp_region_any hm ?_ (Q:=Qg (fun tm H=>Q .normal ⟨tm,H⟩) E)) ?_
 ·have key:=Yi (ops:=l.toArray) (tr:=ss) (n:=n) (E:=E) F hB hE (Q:=Qg (fun tm H=>Q .normal ⟨tm,H⟩) E) (fun a w ⟨tm',H',ρ',g1,g2,g3⟩=>by
   have g4:RelSt E ⟨N0 (l.take n) ss tm,Qo ss H⟩ a w ρ':=(g1.weaken _ fun t x hx=>by rw[g2 t,<-h3 t];exact hx).sameH fun b=>by rw[h4 b,<-g3 b]
   exact hK.out E a w ρ' hE g4) n _ a {w with drawn:=w.drawn+1} hcnt ⟨by simp,(fun j oj _ hl=>by rw[hrep]at hl;cases hl),(fun t _ ht=>getD_in (by simpa using ht) (hrep t))⟩ ⟨tm,H,ρ,hr',fun t=>?_,fun b=>?_⟩
  ·rw[show n+(l.toArray.size-n)=l.toArray.size by simp;omega]at key
   exact key
  ·rw[J4 (k:=0) n (by omega) fun i _ _ _=>hrep i];rfl
  ·exact(Gk n fun i _ _ _=>hrep i).symm
 ·rintro e a' w' ⟨rfl,st',ρ',g1,g2⟩
  exact⟨st',ρ',g1,g2⟩
end
theorem RelSt.trimB{E:Env}{st:St}{a:Act}{w:World}{ρ:Pl}(h:RelSt E st a w ρ){b:Nat}{cells:List AV}(hb:st.H.at b=.live cells)(k:Nat):RelSt E {st with H:=st.H.put b (.live (cells.take k))} a w ρ:=by
 have hn:(st.H.at b).isExt=false:=by rw[hb];rfl
 refine⟨h.size,h.defers,h.tm,⟨fun b' hb'=>?_,fun b' hb'=>?_,fun b' cs hb'=>?_,fun b' es hb'=>?_,h.H.dist,h.H.ext.put (Later.refl _ _ _).cell hn rfl (fun _ _=>rfl) (a0n _) (fun _ _ _ _ _ _ _ _ h=>h) fun _ _ _ _ _=>rfl⟩,h.fr,fun b' k' o hk=>h.minePut b rfl hk,h.lim⟩
 ·rw[p0e]at hb'
  split at hb'
  ·cases hb'
  ·exact h.H.free b' hb'
 ·rw[p0e]at hb'
  split at hb'
  ·cases hb'
  ·exact h.H.dead b' hb'
 ·rw[p0e]at hb'
  split at hb'
  ·rename_i e
   subst e
   injection hb' with hb'
   subst hb'
   obtain⟨k',o,c,e,lo,hi,g1,g2,g3,g4,g5,g6⟩:=h.H.live b' cells hb
   refine⟨k',o,c,e,lo,hi,g1,g2,g3,by rw[a0x];omega,g5,fun j x hx=>g6 j x ?_⟩
   rw[a6s]at hx
   split at hx
   ·exact hx
   ·cases hx
  ·exact h.H.live b' cs hb'
 ·rw[p0e]at hb'
  split at hb'
  ·cases hb'
  ·exact h.H.map b' es hb'
theorem S.trimB{P:Program}{N:Nat}{ops:Array Oper}{K:Tm->AH->Prop}{tm:Tm}{H:AH}{rest:List Oper}(b k:Nat){cells out:List AV}(hb:H.at b=.live cells)(ho:cells.take k=out)(h:Reg none P N ops rest tm (H.put b (.live out)) K):Reg none P N ops rest tm H K:=
 ⟨fun E a w ρ hE hR=>h.out E a w _ hE (ho▸hR.trimB hb k)⟩
section
variable {P:Program}{N:Nat}{ops:Array Oper}{m:Option Nat}{K:Tm->AH->Prop}{tm tm':Tm}{H:AH}{rest:List Oper}{ty:TypeId}{pos:String}{af:Array Edge}{d:Nat}{t e:TypeId}{x y:Operand}
theorem p4o{n nb b:Nat}{b2 m2:Nat}{ys:List AV}{zv:Value}[hu:HasU P t (.slice e)][hi:HasS P e n][hz:HasZ P e zv][hby:HasB P e nb]
  (hx:evT tm x=some (.own b 0 0 n)) (hb:H.at b=.live []) (hy:evT tm y=some (.own b2 0 m2 n)) (hb2:H.at b2=.live ys) (htm:tm.clearO b=some tm') (hH:AH.clear b 0 H=true) (hn1:Nat.ble 1 n=true) (hzs:Nat.beq zv.cells.size n=true) (hN:LN d N)
  (hyl:ys.length=m2*n) (h1:ys.all AV.one=true) (hycl:ys.all (AV.clear b)=true)
  (hfit:m2*nb<=140737488355328) (hlen:m2<=9223372036854775807)
  (h:Reg none P N ops rest ((d,.own b 0 m2 n)::tm') (H.put b (.live ys)) K):
  Reg none P N ops (⟨some d,.call ⟨.builtin .append, #[x,y], #[t,t]⟩,ty,pos,af,none⟩::rest) tm H K:=
 p4n (len:=0) (cells:=[]) hx hb hy hb2 htm hH hn1 hzs hN (by simp) hyl h1 hycl rfl (by rwa[a1n]) (by rwa[a1n]) (by rw[a1n,a4h];exact h)
end
theorem Dz{b n:Nat}{x:HB}{r:AH}(h:x.clear b=true)(k:AH.clear b (n+1) r=true):AH.clear b n (x::r)=true:=by
 show((match Nat.beq n b with|true=>true|false=>x.clear b)&&AH.clear b (n+1) r)=true
 rw[k,Bool.and_true]
 split
 ·rfl
 ·exact h
theorem p5z{P:Program}{N:Nat}{tm tm':Tm}{H H':AH}(p q:Nat){c:Code}{Q:Exit->St->Prop}(h:T P N c ⟨tm',H'⟩ Q)(hp:p<H.length)(hq:q<H.length)(hpl:H.all HB.plain=true)(ht:tm.all (fun x=>x.2.flat1)=true)(e1:Tm.sw p q tm=tm')(e2:AH.sw p q H=H'):T P N c ⟨tm,H⟩ Q:=
 p6m p q (by rw[e1,e2];exact h) hp hq hpl ht
end Go.Proofs.YtcaicpnepfjcmaaGreat
