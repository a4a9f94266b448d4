import Derived.Test.YtbaecdcfefmcgaaGreatWAll
import Derived.Lib.Bytealg
import Derived.Test.YtbaecdcfefmcgaaGreatPVrdx4
import Derived.Test.YtbaecdcfefmcgaaGreatPVrdx16
import Derived.Test.YtbaecdcfefmcgaaGreatPVrdx8
import Derived.Test.YtbaecdcfefmcgaaGreatPVrdx5
import Derived.Test.YtbaecdcfefmcgaaGreatPVrdx9
import Derived.Test.YtbaecdcfefmcgaaGreatPVrdx17
import Derived.Test.YtbaecdcfefmcgaaGreatPVrdx24
import Derived.Test.YtbaecdcfefmcgaaGreatHSome
import Derived.Test.YtbaecdcfefmcgaaGreatPVrdx18
import Derived.Test.YtbaecdcfefmcgaaGreatPVrdx15
import Derived.Test.YtbaecdcfefmcgaaGreatPVrdx19
import Derived.Test.YtbaecdcfefmcgaaGreatPVrdx21
import Derived.Test.YtbaecdcfefmcgaaGreatPVrdx7
import Derived.Test.YtbaecdcfefmcgaaGreatHAll
import Derived.Sort.LotA
import Derived.Test.YtbaecdcfefmcgaaGreatPVrdx10
import Derived.Test.YtbaecdcfefmcgaaGreatPVrdx12
import Derived.Test.YtbaecdcfefmcgaaGreatPVrdx11
import Derived.Test.YtbaecdcfefmcgaaGreatPVrdx14
import Derived.Test.YtbaecdcfefmcgaaGreatPVrdx13
import Derived.Test.YtbaecdcfefmcgaaGreatPVrdx23
import Derived.Test.YtbaecdcfefmcgaaGreatHOpen
namespace Go.Proofs.YtbaecdcfefmcgaaGreat.HNum
open Go.RowKit Go.Proofs.YtbaecdcfefmcgaaGreatW.PrintWords
theorem wrap_succ (j:Nat) (h:j<9223372036854775807):wrap64 ((j:Int) + 1)=((j + 1:Nat):Int):=by
 unfold wrap64
 omega
theorem wrap_pred (j:Nat) (h0:0<j) (h:j<9223372036854775807):wrap64 ((j:Int) - 1)=((j - 1:Nat):Int):=by
 unfold wrap64
 omega
theorem Ev.const {α:Type} {o:Option α} {r:α} (h:o=some r):Ev (fun _=>o) r:=⟨0,fun _ _=>h⟩
theorem Ev.bind0 {α β:Type} {o:Option α} {f:Nat→α→Option β} {a:α} {r:β} (h:o=some a) (k:Ev (fun n=>f n a) r):Ev (fun n=>o.bind (f n)) r:=by
 subst h
 exact k
theorem Ev.if_pos {α:Type} {c:Prop} [Decidable c] {f g:Nat→Option α} {r:α} (h:c) (k:Ev f r):Ev (fun n=>if c then f n else g n) r:=by
 simpa only [h,if_true] using k
theorem Ev.if_neg {α:Type} {c:Prop} [Decidable c] {f g:Nat→Option α} {r:α} (h:¬ c) (k:Ev g r):Ev (fun n=>if c then f n else g n) r:=by
 simpa only [h,if_false] using k
theorem Ev.iff {α:Type} {c:Prop} [Decidable c] {f g:Nat→Option α} {r:α} (h1:c→Ev f r) (h2:¬ c→Ev g r):Ev (fun n=>if c then f n else g n) r:=by
 by_cases h:c
 ·exact Ev.if_pos h (h1 h)
 ·exact Ev.if_neg h (h2 h)
end Go.Proofs.YtbaecdcfefmcgaaGreat.HNum
set_option linter.unusedSimpArgs false
namespace Go.Proofs.YtbaecdcfefmcgaaGreat.HKeyV
open Go.Lib Go.RowKit
theorem cB_cons (a b:UInt8) (xs ys:List UInt8):compareBytes (a :: xs) (b :: ys)=if a.toNat<b.toNat then -1 else if b.toNat<a.toNat then 1 else compareBytes xs ys:=by
 rw [compareBytes]
 simp only [UInt8.lt_iff_toNat_lt]
theorem cB_refl:∀ a,compareBytes a a=0
 | []=>rfl
 | a :: xs=>by rw [cB_cons,if_neg (by omega),if_neg (by omega)];exact cB_refl xs
theorem cB_anti:∀ a b,compareBytes b a = - compareBytes a b
 | [],[]=>rfl
 | [],_ :: _=>rfl
 | _ :: _,[]=>rfl
 | a :: xs,b :: ys=>by
  rw [cB_cons,cB_cons]
  by_cases h1:a.toNat<b.toNat
  ·rw [if_pos h1,if_neg (by omega),if_pos h1];rfl
  ·by_cases h2:b.toNat<a.toNat
   ·simp [h1,h2]
   ·rw [if_neg h1,if_neg h2,if_neg h2,if_neg h1];exact cB_anti xs ys
theorem cB_zero:∀ a b,compareBytes a b=0→a=b
 | [],[]=>fun _=>rfl
 | [],_ :: _=>fun h=>by simp [compareBytes] at h
 | _ :: _,[]=>fun h=>by simp [compareBytes] at h
 | a :: xs,b :: ys=>fun h=>by
  rw [cB_cons] at h
  by_cases h1:a.toNat<b.toNat
  ·rw [if_pos h1] at h;simp at h
  ·by_cases h2:b.toNat<a.toNat
   ·rw [if_neg h1,if_pos h2] at h;simp at h
   ·rw [if_neg h1,if_neg h2] at h
    rw [UInt8.toNat_inj.1 (show a.toNat=b.toNat by omega),cB_zero xs ys h]
theorem less_cmp:∀ a b:List UInt8,Op.bytesLess a b=decide (compareBytes a b<0)
 | [],[]=>by simp [Op.bytesLess,compareBytes]
 | [],b :: ys=>by simp [Op.bytesLess,compareBytes]
 | a :: xs,[]=>by simp [Op.bytesLess,compareBytes]
 | a :: xs,b :: ys=>by
  rw [cB_cons]
  simp only [Op.bytesLess]
  rw [less_cmp xs ys]
  by_cases h1:a.toNat<b.toNat
  ·have:a<b:=h1
   rw [if_pos h1]
   simp [this]
  ·have h1':¬ a<b:=h1
   by_cases h2:b.toNat<a.toNat
   ·have:a≠b:=fun e=>by subst e;omega
    rw [if_neg h1,if_pos h2]
    simp [h1',this]
   ·have:a=b:=by apply UInt8.toNat_inj.1;omega
    rw [if_neg h1,if_neg h2]
    simp [h1',this]
end Go.Proofs.YtbaecdcfefmcgaaGreat.HKeyV
set_option linter.unusedSimpArgs false
set_option linter.unusedVariables false
namespace Go.Proofs.YtbaecdcfefmcgaaGreat.HChain
open Go.RowKit Go.Proofs.YtbaecdcfefmcgaaGreat.PVrd Go.Proofs.YtbaecdcfefmcgaaGreat.HNum Go.Proofs.YtbaecdcfefmcgaaGreatW.PrintWords Go.Proofs.YtbaecdcfefmcgaaGreatW.PrintLast
abbrev V:=S78
abbrev Ch:=S83
theorem rd_at (l:List V) (j:Nat) (h:j<l.length):rd_T78 l (j:Int)=l[j]:=by simp [rd_T78,h]
theorem rdc_at (l:List Ch) (j:Nat) (h:j<l.length):rd_T83 l (j:Int)=l[j]:=by simp [rd_T83,h]
def keyOK (s:ByteArray):Bool:=decide (1≤s.size∧s.size≤12)
def vOK (v:V):Bool:=decide (1≤v.f0) && (decide (v.f0≤1073741824) && (decide (v.f1.size≤20) && (!v.f2 || (v.f1.toList == []))))
theorem toList_nil (s:ByteArray):s.toList=([]:List UInt8)↔s.size=0:=by
 rw [ByteArray.toList_eq]
 have:s.data.toList.length=s.size:=Array.length_toList
 constructor
 ·intro h
  rw [h] at this
  simpa using this.symm
 ·intro h
  exact List.eq_nil_of_length_eq_zero (by omega)
theorem key_Is_eq (s:ByteArray):F4.f s=some (keyOK s):=by
 unfold F4.f keyOK
 by_cases h:s.toList=([]:List UInt8)
 ·have:=(toList_nil s).1 h
  rw [if_pos h];simp [this]
 ·have:=mt (toList_nil s).2 h
  rw [if_neg h]
  congr 1
  rw [decide_eq_decide]
  omega
theorem key_Fits_eq (s:ByteArray):F8.f s=some (decide (s.size≤20)):=by
 unfold F8.f
 congr 1
 rw [decide_eq_decide]
 omega
theorem version_eq (v:V):Gu.f v.f0 v.f1 v.f2=some (vOK v):=by
 unfold Gu.f vOK
 rw [key_Fits_eq]
 simp only [Option.bind_some,ge_iff_le]
 by_cases h1:1≤v.f0 <;> by_cases h2:v.f0≤1073741824 <;> by_cases h3:v.f1.size≤20 <;> by_cases h4:v.f2=true <;> simp [h1,h2,h3,h4]
def OKfrom (l:List V) (j:Nat):Prop:=∀ i (h:i<l.length),j≤i→vOK l[i]=true∧(0<i→∀ h2:i - 1<l.length,l[i].f0<l[i - 1].f0)
def May (key:ByteArray) (l:List V):Prop:=OKfrom l 0∧keyOK key=true∧0<l.length
theorem OKfrom.step {l:List V} {j:Nat} (hj:j<l.length):OKfrom l j↔(vOK l[j]=true∧(0<j→∀ h2:j - 1<l.length,l[j].f0<l[j - 1].f0))∧OKfrom l (j + 1):=by
 constructor
 ·intro h
  exact ⟨h j hj (Nat.le_refl _),fun i hi hji=>h i hi (by omega)⟩
 ·rintro ⟨h1,h2⟩ i hi hji
  rcases Nat.eq_or_lt_of_le hji with rfl|h3
  ·exact h1
  ·exact h2 i hi h3
theorem OKfrom.last {l:List V} {j:Nat} (hj:l.length≤j):OKfrom l j:=fun i hi hji=>by omega
open Classical in
theorem May_from (key:ByteArray) (l:List V) (hl:l.length≤4611686018427387904) (d:Nat):∀ j,j + d=l.length →
 Ev (fun k=>Fi.l0 k l (l.length:Int) (j:Int) key l) (decide (OKfrom l j∧keyOK key=true∧0<l.length)):=by
 induction d with
 | zero=>
  intro j hj
  refine Ev.step (fun k=>by simp only [Fi.l0];rfl) ?_
  refine Ev.if_neg (by omega) (Ev.bind0 (key_Is_eq key) (Ev.const ?_))
  have h1:=OKfrom.last (l:=l) (j:=j) (by omega)
  by_cases hk:keyOK key=true
  ·simp only [hk,if_true,Option.some.injEq]
   rw [decide_eq_decide]
   simp only [h1,hk,true_and]
   omega
  ·simp [hk]
 | succ d ih=>
  intro j hj
  have hlt:j<l.length:=by omega
  refine Ev.step (fun k=>by simp only [Fi.l0];rfl) ?_
  refine Ev.if_pos (by omega) (Ev.if_pos (by omega) (Ev.if_pos (by omega) ?_))
  rw [rd_at l j hlt]
  refine Ev.bind0 (version_eq _) ?_
  have hs:=OKfrom.step hlt
  have stop:Ev (fun k=>Fi.j1 k l (l.length:Int) (j:Int) true key l) false:=Ev.step (fun k=>by simp only [Fi.j1];rfl) (Ev.if_pos (by first|rfl|trivial) (Ev.now _))
  have go:Ev (fun k=>Fi.j1 k l (l.length:Int) (j:Int) false key l) (decide (OKfrom l (j + 1)∧keyOK key=true∧0<l.length)):=by
   refine Ev.step (fun k=>by simp only [Fi.j1];rfl) (Ev.if_neg (by simp) ?_)
   rw [wrap_succ j (by omega)]
   exact ih (j + 1) (by omega)
  refine Ev.iff (fun hv=>Ev.iff (fun h0=>?_) (fun h0=>?_)) (fun hv=>?_)
  ·have h0':0<j:=by omega
   have hlt1:j - 1<l.length:=by omega
   rw [wrap_pred j h0' (by omega),rd_at l (j - 1) hlt1]
   refine Ev.if_pos (by omega) (Ev.if_pos (by omega) ?_)
   by_cases hc:l[j].f0≥l[j - 1].f0
   ·rw [decide_eq_true hc]
    have e:decide (OKfrom l j∧keyOK key=true∧0<l.length)=false:=by
     rw [decide_eq_false_iff_not]
     rintro ⟨h,_⟩
     have:=(hs.1 h).1.2 h0' hlt1
     omega
    rw [e]
    exact stop
   ·rw [decide_eq_false hc]
    have e:(OKfrom l j∧keyOK key=true∧0<l.length)↔(OKfrom l (j + 1)∧keyOK key=true∧0<l.length):=by
     rw [hs]
     have:vOK l[j]=true∧(0<j→∀ h2:j - 1<l.length,l[j].f0<l[j - 1].f0):=⟨hv,fun _ _=>by omega⟩
     exact ⟨fun h=>⟨h.1.2,h.2⟩,fun h=>⟨⟨this,h.1⟩,h.2⟩⟩
    rw [decide_eq_decide.2 e]
    exact go
  ·have e:(OKfrom l j∧keyOK key=true∧0<l.length)↔(OKfrom l (j + 1)∧keyOK key=true∧0<l.length):=by
    rw [hs]
    have:vOK l[j]=true∧(0<j→∀ h2:j - 1<l.length,l[j].f0<l[j - 1].f0):=⟨hv,fun h _=>by omega⟩
    exact ⟨fun h=>⟨h.1.2,h.2⟩,fun h=>⟨⟨this,h.1⟩,h.2⟩⟩
   rw [decide_eq_decide.2 e]
   exact go
  ·have e:decide (OKfrom l j∧keyOK key=true∧0<l.length)=false:=by
    rw [decide_eq_false_iff_not]
    rintro ⟨h,_⟩
    exact hv (hs.1 h).1.1
   rw [e]
   exact stop
open Classical in
theorem May_ev (key:ByteArray) (l:List V) (hl:l.length≤4611686018427387904):Ev (fun k=>Fi.f k key l) (decide (May key l)):=by
 have h:=May_from key l hl l.length 0 (by omega)
 have e:decide (May key l)=decide (OKfrom l 0∧keyOK key=true∧0<l.length):=by rw [decide_eq_decide];exact Iff.rfl
 rw [e]
 exact h
def place (l:List V) (n:Int):Nat:=l.findIdx (fun v=>decide (v.f0≤n))
def look (l:List V) (n:Int):Option V:=if h:place l n<l.length then (if (l[place l n]).f2=true then none else some l[place l n]) else none
theorem place_le (l:List V) (n:Int):place l n≤l.length:=List.findIdx_le_length
theorem Look_ev (key:ByteArray) (l:List V) (n:Int):Ev (fun k=>FD.f k key l n) (match look l n with|some v=>(v.f0,v.f1,v.f2,true)|none=>(0,⟨#[]⟩,false,false)):=by
 unfold FD.f Gs.f
 refine Ev.bind0 rfl ?_
 change Ev (fun k=>if ((place l n:Nat):Int)=(l.length:Int) then _ else (if 0≤((place l n:Nat):Int) then (if ((place l n:Nat):Int)<(l.length:Int) then FD.j0 k ((place l n:Nat):Int) (rd_T78 l ((place l n:Nat):Int)).f2 key l else _) else _)) _
 have hle:=place_le l n
 unfold look
 by_cases h:place l n<l.length
 ·rw [dif_pos h]
  refine Ev.if_neg (by omega) (Ev.if_pos (by omega) (Ev.if_pos (by omega) ?_))
  rw [rd_at l _ h]
  cases hg:(l[place l n]).f2 with
  | true=>exact Ev.step (fun k=>by simp only [FD.j0];rfl) (Ev.if_pos (by first|rfl|trivial) (Ev.now _))
  | false=>
   refine Ev.step (fun k=>by simp only [FD.j0];rfl) (Ev.if_neg (by simp) (Ev.if_pos (by omega) (Ev.if_pos (by omega) ?_)))
   rw [rd_at l _ h]
   rw [if_neg (by simp)]
   show Ev _ ((l[place l n]).f0,(l[place l n]).f1,(l[place l n]).f2,true)
   rw [hg]
   exact Ev.now _
 ·rw [dif_neg h]
  exact Ev.if_pos (by omega) (Ev.step (fun k=>by simp only [FD.j0];rfl) (Ev.if_pos (by first|rfl|trivial) (Ev.now _)))
theorem place_spec (l:List V) (n:Int) (p:Nat) (hp:p≤l.length) (h1:∀ j (h:j<l.length),j<p→n<(l[j]).f0) (h2:∀ h:p<l.length,(l[p]).f0≤n):place l n=p:=by
 unfold place
 rcases Nat.lt_or_ge p l.length with h|h
 ·refine (List.findIdx_eq h).2 ⟨by simpa using h2 h,fun j hj=>?_⟩
  have:=h1 j (by omega) hj
  simp only [decide_eq_false_iff_not]
  omega
 ·have:p=l.length:=by omega
  subst this
  refine List.findIdx_eq_length.2 (fun x hx=>?_)
  obtain ⟨j,hj,rfl⟩:=List.mem_iff_getElem.1 hx
  have:=h1 j hj hj
  simp only [decide_eq_false_iff_not]
  omega
end Go.Proofs.YtbaecdcfefmcgaaGreat.HChain
set_option linter.unusedSimpArgs false
set_option linter.unusedVariables false
namespace Go.Proofs.YtbaecdcfefmcgaaGreat.HChain
open Go.RowKit Go.Proofs.YtbaecdcfefmcgaaGreat.PVrd Go.Proofs.YtbaecdcfefmcgaaGreat.HNum Go.Proofs.YtbaecdcfefmcgaaGreatW.PrintWords Go.Proofs.YtbaecdcfefmcgaaGreatW.PrintLast
theorem ref_Key_eq (s:ByteArray):F9.f s=some (keyOK s):=by
 unfold F9.f Gc.f keyOK
 by_cases h:(s.size:Int)≥1
 ·rw [if_pos h]
  simp only [Option.bind_some,Option.some.injEq,decide_eq_decide]
  omega
 ·rw [if_neg h]
  simp only [Option.bind_some,Option.some.injEq]
  symm
  simp only [decide_eq_false_iff_not]
  omega
theorem ref_Version_eq (v:V):Gv.f v.f0 v.f1 v.f2=some (vOK v):=by
 unfold Gv.f Gc.f Gd.f vOK
 simp only [ge_iff_le]
 have e:((v.f1.size:Int)≤20)↔v.f1.size≤20:=by omega
 by_cases h1:1≤v.f0 <;> by_cases h2:v.f0≤1073741824 <;> by_cases h3:v.f1.size≤20 <;> by_cases h4:v.f2=true <;> simp [h1,h2,h3,h4,e]
open Classical in
theorem ref_from (key:ByteArray) (l:List V) (hl:l.length≤4611686018427387904) (d:Nat):∀ j,j + d=l.length →
 Ev (fun k=>Fj.l0 k (j:Int) key l) (decide (OKfrom l j∧keyOK key=true∧0<l.length)):=by
 induction d with
 | zero=>
  intro j hj
  refine Ev.step (fun k=>by simp only [Fj.l0];rfl) ?_
  refine Ev.if_neg (by omega) (Ev.bind0 (ref_Key_eq key) (Ev.const ?_))
  have h1:=OKfrom.last (l:=l) (j:=j) (by omega)
  by_cases hk:keyOK key=true
  ·simp only [hk,if_true,Option.some.injEq]
   rw [decide_eq_decide]
   simp only [h1,hk,true_and]
   omega
  ·simp [hk]
 | succ d ih=>
  intro j hj
  have hlt:j<l.length:=by omega
  refine Ev.step (fun k=>by simp only [Fj.l0];rfl) ?_
  refine Ev.if_pos (by omega) (Ev.if_pos (by omega) ?_)
  rw [rd_at l j hlt]
  refine Ev.bind0 (ref_Version_eq _) ?_
  have hs:=OKfrom.step hlt
  have stop:Ev (fun k=>Fj.j1 k (j:Int) true key l) false:=Ev.step (fun k=>by simp only [Fj.j1];rfl) (Ev.if_pos (by first|rfl|trivial) (Ev.now _))
  have go:Ev (fun k=>Fj.j1 k (j:Int) false key l) (decide (OKfrom l (j + 1)∧keyOK key=true∧0<l.length)):=by
   refine Ev.step (fun k=>by simp only [Fj.j1];rfl) (Ev.if_neg (by simp) ?_)
   rw [wrap_succ j (by omega)]
   exact ih (j + 1) (by omega)
  refine Ev.iff (fun hv=>Ev.iff (fun h0=>?_) (fun h0=>?_)) (fun hv=>?_)
  ·have h0':0<j:=by omega
   have hlt1:j - 1<l.length:=by omega
   rw [wrap_pred j h0' (by omega),rd_at l (j - 1) hlt1]
   refine Ev.if_pos (by omega) (Ev.if_pos (by omega) ?_)
   by_cases hc:l[j - 1].f0≤l[j].f0
   ·rw [decide_eq_true hc]
    have e:decide (OKfrom l j∧keyOK key=true∧0<l.length)=false:=by
     rw [decide_eq_false_iff_not]
     rintro ⟨h,_⟩
     have:=(hs.1 h).1.2 h0' hlt1
     omega
    rw [e]
    exact stop
   ·rw [decide_eq_false hc]
    have e:(OKfrom l j∧keyOK key=true∧0<l.length)↔(OKfrom l (j + 1)∧keyOK key=true∧0<l.length):=by
     rw [hs]
     have:vOK l[j]=true∧(0<j→∀ h2:j - 1<l.length,l[j].f0<l[j - 1].f0):=⟨hv,fun _ _=>by omega⟩
     exact ⟨fun h=>⟨h.1.2,h.2⟩,fun h=>⟨⟨this,h.1⟩,h.2⟩⟩
    rw [decide_eq_decide.2 e]
    exact go
  ·have e:(OKfrom l j∧keyOK key=true∧0<l.length)↔(OKfrom l (j + 1)∧keyOK key=true∧0<l.length):=by
    rw [hs]
    have:vOK l[j]=true∧(0<j→∀ h2:j - 1<l.length,l[j].f0<l[j - 1].f0):=⟨hv,fun h _=>by omega⟩
    exact ⟨fun h=>⟨h.1.2,h.2⟩,fun h=>⟨⟨this,h.1⟩,h.2⟩⟩
   rw [decide_eq_decide.2 e]
   exact go
  ·have e:decide (OKfrom l j∧keyOK key=true∧0<l.length)=false:=by
    rw [decide_eq_false_iff_not]
    rintro ⟨h,_⟩
    exact hv (hs.1 h).1.1
   rw [e]
   exact stop
open Classical in
theorem ref_ev (key:ByteArray) (l:List V) (hl:l.length≤4611686018427387904):Ev (fun k=>Fj.f k key l) (decide (May key l)):=by
 have h:=ref_from key l hl l.length 0 (by omega)
 have e:decide (May key l)=decide (OKfrom l 0∧keyOK key=true∧0<l.length):=by rw [decide_eq_decide];exact Iff.rfl
 rw [e]
 exact h
end Go.Proofs.YtbaecdcfefmcgaaGreat.HChain
set_option linter.unusedSimpArgs false
set_option linter.unusedVariables false
set_option linter.unusedSectionVars false
namespace Go.Proofs.YtbaecdcfefmcgaaGreat.HTable
open Go.RowKit Go.Proofs.YtbaecdcfefmcgaaGreat.PVrd Go.Proofs.YtbaecdcfefmcgaaGreat.HNum Go.Proofs.YtbaecdcfefmcgaaGreat.HChain Go.Proofs.YtbaecdcfefmcgaaGreatW.PrintWords Go.Proofs.YtbaecdcfefmcgaaGreatW.PrintLast
def less (a b:Ch):Prop:=Op.bytesLess a.f0.toList b.f0.toList=true
theorem less_trans_l:∀ a b c:List UInt8,Op.bytesLess a b=true→Op.bytesLess b c=true→Op.bytesLess a c=true:=by
 intro a
 induction a with
 | nil=>
  intro b c h1 h2
  cases c with
  | nil=>cases b <;> simp [Op.bytesLess] at h2
  | cons y c=>rfl
 | cons x a ih=>
  intro b c h1 h2
  cases b with
  | nil=>simp [Op.bytesLess] at h1
  | cons y b=>
   cases c with
   | nil=>simp [Op.bytesLess] at h2
   | cons z c=>
    simp only [Op.bytesLess,Bool.or_eq_true,Bool.and_eq_true,decide_eq_true_eq,beq_iff_eq] at h1 h2 ⊢
    rcases h1 with h1|⟨rfl,h1⟩ <;> rcases h2 with h2|⟨rfl,h2⟩
    ·exact .inl (UInt8.lt_trans h1 h2)
    ·exact .inl h1
    ·exact .inl h2
    ·exact .inr ⟨rfl,ih b c h1 h2⟩
theorem less_trans {a b c:Ch} (h1:less a b) (h2:less b c):less a c:=less_trans_l _ _ _ h1 h2
def sums (l:List Ch):Nat:=(l.map (fun c=>c.f1.length)).sum
theorem sums_cons (c:Ch) (l:List Ch):sums (c :: l)=c.f1.length + sums l:=by simp [sums]
def TabFrom (l:List Ch) (j:Nat):Prop:=∀ i (h:i<l.length),j≤i→May (l[i]).f0 (l[i]).f1∧(0<i→∀ h2:i - 1<l.length,less l[i - 1] l[i])
theorem TabFrom.step {l:List Ch} {j:Nat} (hj:j<l.length):TabFrom l j↔(May (l[j]).f0 (l[j]).f1∧(0<j→∀ h2:j - 1<l.length,less l[j - 1] l[j]))∧TabFrom l (j + 1):=by
 constructor
 ·exact fun h=>⟨h j hj (Nat.le_refl _),fun i hi hji=>h i hi (by omega)⟩
 ·rintro ⟨h1,h2⟩ i hi hji
  rcases Nat.eq_or_lt_of_le hji with rfl|h
  ·exact h1
  ·exact h2 i hi (by omega)
theorem TabFrom.last {l:List Ch} {j:Nat} (hj:l.length≤j):TabFrom l j:=fun i hi hji=>by omega
structure TabOK (l:List Ch):Prop where
 each:∀ c∈l,May c.f0 c.f1
 asc:l.Pairwise less
 few:sums l≤64
theorem asc_far {l:List Ch} (h:TabFrom l 0) (i:Nat) (d:Nat):∀ (h2:i + d + 1<l.length),less (l[i]'(by omega)) l[i + d + 1]:=by
 induction d with
 | zero=>
  intro h2
  exact (h (i + 0 + 1) h2 (by omega)).2 (by omega) (by omega)
 | succ d ih=>
  intro h2
  exact less_trans (ih (by omega)) ((h (i + (d + 1) + 1) h2 (by omega)).2 (by omega) (by omega))
theorem tab_iff (l:List Ch):TabFrom l 0∧sums l≤64↔TabOK l:=by
 constructor
 ·rintro ⟨h,hs⟩
  refine ⟨fun c hc=>?_,List.pairwise_iff_getElem.2 (fun i j hi hj hij=>?_),hs⟩
  ·obtain ⟨i,hi,rfl⟩:=List.mem_iff_getElem.1 hc
   exact (h i hi (by omega)).1
  ·have:=asc_far h i (j - i - 1) (by omega)
   have e:i + (j - i - 1) + 1=j:=by omega
   simpa only [e] using this
 ·rintro ⟨h1,h2,h3⟩
  exact ⟨fun i hi _=>⟨h1 _ (List.getElem_mem hi),fun h0 h4=>(List.pairwise_iff_getElem.1 h2) (i - 1) i h4 hi (by omega)⟩,h3⟩
section
variable (l:List Ch) (hl:l.length≤1000000) (hv:∀ c∈l,c.f1.length≤1000000)
include hl hv
theorem Rooms_from (d:Nat):∀ j n:Nat,j + d=l.length→n≤j * 1000000→Ev (fun k=>FX.l0 k (n:Int) l (l.length:Int) (j:Int)) ((n + sums (l.drop j):Nat):Int):=by
 induction d with
 | zero=>
  intro j n hj hn
  rw [List.drop_eq_nil_of_le (by omega)]
  exact Ev.step (fun k=>by simp only [FX.l0];rfl) (Ev.if_neg (by omega) (Ev.now _))
 | succ d ih=>
  intro j n hj hn
  have hlt:j<l.length:=by omega
  have h2:=hv l[j] (List.getElem_mem hlt)
  refine Ev.step (fun k=>by simp only [FX.l0];rfl) (Ev.if_pos (by omega) (Ev.if_pos (by omega) (Ev.if_pos (by omega) ?_)))
  rw [rdc_at l j hlt,wrap_succ j (by omega),show wrap64 ((n:Int) + ((l[j]).f1.length:Int))=((n + (l[j]).f1.length:Nat):Int) by unfold wrap64;omega,List.drop_eq_getElem_cons hlt,sums_cons,← Nat.add_assoc]
  exact ih (j + 1) _ (by omega) (by omega)
theorem Count_from (d:Nat):∀ j n:Nat,j + d=l.length→n≤j * 1000000→Ev (fun k=>FY.l0 k (n:Int) (j:Int) l) ((n + sums (l.drop j):Nat):Int):=by
 induction d with
 | zero=>
  intro j n hj hn
  rw [List.drop_eq_nil_of_le (by omega)]
  exact Ev.step (fun k=>by simp only [FY.l0];rfl) (Ev.if_neg (by omega) (Ev.now _))
 | succ d ih=>
  intro j n hj hn
  have hlt:j<l.length:=by omega
  have h2:=hv l[j] (List.getElem_mem hlt)
  refine Ev.step (fun k=>by simp only [FY.l0];rfl) (Ev.if_pos (by omega) (Ev.if_pos (by omega) ?_))
  rw [rdc_at l j hlt,wrap_succ j (by omega),show wrap64 ((n:Int) + ((l[j]).f1.length:Int))=((n + (l[j]).f1.length:Nat):Int) by unfold wrap64;omega,List.drop_eq_getElem_cons hlt,sums_cons,← Nat.add_assoc]
  exact ih (j + 1) _ (by omega) (by omega)
theorem Rooms_ev:Ev (fun k=>FX.f k l) ((sums l:Nat):Int):=by
 have h:=Rooms_from l hl hv l.length 0 0 (by omega) (by omega)
 rw [List.drop_zero,Nat.zero_add] at h
 exact h
theorem Count_ev:Ev (fun k=>FY.f k l) ((sums l:Nat):Int):=by
 have h:=Count_from l hl hv l.length 0 0 (by omega) (by omega)
 rw [List.drop_zero,Nat.zero_add] at h
 exact h
open Classical in
theorem tabMay_from (d:Nat):∀ j,j + d=l.length→Ev (fun k=>Fk.l0 k l (l.length:Int) (j:Int) l) (decide (TabFrom l j∧sums l≤64)):=by
 induction d with
 | zero=>
  intro j hj
  refine Ev.step (fun k=>by simp only [Fk.l0];rfl) (Ev.if_neg (by omega) (Ev.bind (Rooms_ev l hl hv) ?_))
  have h1:=TabFrom.last (l:=l) (j:=j) (by omega)
  rw [show decide (TabFrom l j∧sums l≤64)=decide (((sums l:Nat):Int)≤64) by rw [decide_eq_decide];simp only [h1,true_and];omega]
  exact Ev.now _
 | succ d ih=>
  intro j hj
  have hlt:j<l.length:=by omega
  have hb:=hv l[j] (List.getElem_mem hlt)
  have hs:=TabFrom.step hlt
  refine Ev.step (fun k=>by simp only [Fk.l0];rfl) (Ev.if_pos (by omega) (Ev.if_pos (by omega) (Ev.if_pos (by omega) ?_)))
  rw [rdc_at l j hlt]
  refine Ev.bind (May_ev (l[j]).f0 (l[j]).f1 (by omega)) ?_
  have stop:Ev (fun k=>Fk.j1 k l (l.length:Int) (j:Int) true l) false:=Ev.step (fun k=>by simp only [Fk.j1];rfl) (Ev.if_pos (by first|rfl|trivial) (Ev.now _))
  have go:Ev (fun k=>Fk.j1 k l (l.length:Int) (j:Int) false l) (decide (TabFrom l (j + 1)∧sums l≤64)):=by
   refine Ev.step (fun k=>by simp only [Fk.j1];rfl) (Ev.if_neg (by simp) ?_)
   rw [wrap_succ j (by omega)]
   exact ih (j + 1) (by omega)
  by_cases hm:May (l[j]).f0 (l[j]).f1
  ·refine Ev.if_pos (by simpa using hm) ?_
   by_cases h0:0<j
   ·refine Ev.if_pos (by omega) ?_
    rw [wrap_pred j h0 (by omega),rdc_at l (j - 1) (by omega)]
    refine Ev.if_pos (by omega) (Ev.if_pos (by omega) ?_)
    by_cases hc:less l[j - 1] l[j]
    ·have hc':Op.bytesLess (l[j - 1]).f0.toList (l[j]).f0.toList=true:=hc
     rw [hc']
     have e:decide (TabFrom l j∧sums l≤64)=decide (TabFrom l (j + 1)∧sums l≤64):=by
      rw [decide_eq_decide,hs]
      exact ⟨fun h=>⟨h.1.2,h.2⟩,fun h=>⟨⟨⟨hm,fun _ _=>hc⟩,h.1⟩,h.2⟩⟩
     rw [e]
     exact go
    ·have hc':Op.bytesLess (l[j - 1]).f0.toList (l[j]).f0.toList=false:=Bool.eq_false_iff.2 hc
     rw [hc',decide_eq_false (fun h=>hc ((hs.1 h.1).1.2 h0 (by omega)))]
     exact stop
   ·refine Ev.if_neg (by omega) ?_
    have e:decide (TabFrom l j∧sums l≤64)=decide (TabFrom l (j + 1)∧sums l≤64):=by
     rw [decide_eq_decide,hs]
     exact ⟨fun h=>⟨h.1.2,h.2⟩,fun h=>⟨⟨⟨hm,fun h1=>absurd h1 h0⟩,h.1⟩,h.2⟩⟩
    rw [e]
    exact go
  ·refine Ev.if_neg (by simpa using hm) ?_
   rw [decide_eq_false (fun h=>hm (hs.1 h.1).1.1)]
   exact stop
open Classical in
theorem refTab_from (d:Nat):∀ j,j + d=l.length→Ev (fun k=>Fl.l0 k (j:Int) l) (decide (TabFrom l j∧sums l≤64)):=by
 induction d with
 | zero=>
  intro j hj
  refine Ev.step (fun k=>by simp only [Fl.l0];rfl) (Ev.if_neg (by omega) (Ev.bind (Count_ev l hl hv) ?_))
  have h1:=TabFrom.last (l:=l) (j:=j) (by omega)
  rw [show decide (TabFrom l j∧sums l≤64)=decide (((sums l:Nat):Int)≤64) by rw [decide_eq_decide];simp only [h1,true_and];omega]
  exact Ev.now _
 | succ d ih=>
  intro j hj
  have hlt:j<l.length:=by omega
  have hb:=hv l[j] (List.getElem_mem hlt)
  have hs:=TabFrom.step hlt
  refine Ev.step (fun k=>by simp only [Fl.l0];rfl) (Ev.if_pos (by omega) (Ev.if_pos (by omega) ?_))
  rw [rdc_at l j hlt]
  refine Ev.bind (ref_ev (l[j]).f0 (l[j]).f1 (by omega)) ?_
  have stop:Ev (fun k=>Fl.j1 k (j:Int) true l) false:=Ev.step (fun k=>by simp only [Fl.j1];rfl) (Ev.if_pos (by first|rfl|trivial) (Ev.now _))
  have go:Ev (fun k=>Fl.j1 k (j:Int) false l) (decide (TabFrom l (j + 1)∧sums l≤64)):=by
   refine Ev.step (fun k=>by simp only [Fl.j1];rfl) (Ev.if_neg (by simp) ?_)
   rw [wrap_succ j (by omega)]
   exact ih (j + 1) (by omega)
  by_cases hm:May (l[j]).f0 (l[j]).f1
  ·refine Ev.if_pos (by simpa using hm) ?_
   by_cases h0:0<j
   ·refine Ev.if_pos (by omega) ?_
    rw [wrap_pred j h0 (by omega),rdc_at l (j - 1) (by omega)]
    refine Ev.if_pos (by omega) (Ev.if_pos (by omega) ?_)
    by_cases hc:less l[j - 1] l[j]
    ·have hc':Op.bytesLess (l[j - 1]).f0.toList (l[j]).f0.toList=true:=hc
     rw [hc']
     have e:decide (TabFrom l j∧sums l≤64)=decide (TabFrom l (j + 1)∧sums l≤64):=by
      rw [decide_eq_decide,hs]
      exact ⟨fun h=>⟨h.1.2,h.2⟩,fun h=>⟨⟨⟨hm,fun _ _=>hc⟩,h.1⟩,h.2⟩⟩
     rw [e]
     exact go
    ·have hc':Op.bytesLess (l[j - 1]).f0.toList (l[j]).f0.toList=false:=Bool.eq_false_iff.2 hc
     rw [hc',decide_eq_false (fun h=>hc ((hs.1 h.1).1.2 h0 (by omega)))]
     exact stop
   ·refine Ev.if_neg (by omega) ?_
    have e:decide (TabFrom l j∧sums l≤64)=decide (TabFrom l (j + 1)∧sums l≤64):=by
     rw [decide_eq_decide,hs]
     exact ⟨fun h=>⟨h.1.2,h.2⟩,fun h=>⟨⟨⟨hm,fun h1=>absurd h1 h0⟩,h.1⟩,h.2⟩⟩
    rw [e]
    exact go
  ·refine Ev.if_neg (by simpa using hm) ?_
   rw [decide_eq_false (fun h=>hm (hs.1 h.1).1.1)]
   exact stop
open Classical in
theorem tabMay_ev:Ev (fun k=>Fk.f k l) (decide (TabOK l)):=by
 rw [show decide (TabOK l)=decide (TabFrom l 0∧sums l≤64) by rw [decide_eq_decide,tab_iff]]
 exact tabMay_from l hl hv l.length 0 (by omega)
open Classical in
theorem refTab_ev:Ev (fun k=>Fl.f k l) (decide (TabOK l)):=by
 rw [show decide (TabOK l)=decide (TabFrom l 0∧sums l≤64) by rw [decide_eq_decide,tab_iff]]
 exact refTab_from l hl hv l.length 0 (by omega)
end
end Go.Proofs.YtbaecdcfefmcgaaGreat.HTable
set_option linter.unusedSimpArgs false
set_option linter.unusedVariables false
set_option linter.unusedSectionVars false
namespace Go.Proofs.YtbaecdcfefmcgaaGreat.HTable
open Go.RowKit Go.Proofs.YtbaecdcfefmcgaaGreat.PVrd Go.Proofs.YtbaecdcfefmcgaaGreat.HNum Go.Proofs.YtbaecdcfefmcgaaGreat.HChain Go.Proofs.YtbaecdcfefmcgaaGreat.HKeyV Go.Proofs.YtbaecdcfefmcgaaGreatW.PrintWords Go.Proofs.YtbaecdcfefmcgaaGreatW.PrintLast
theorem rdt_at (l:List Ch) (j:Nat) (h:j<l.length):rd_T83 l (j:Int)=l[j]:=by simp [rd_T83,h]
structure Parts (l:List Ch) (k:ByteArray) (p:Nat):Prop where
 le:p≤l.length
 low:∀ m (h:m<l.length),m<p→Op.bytesLess (l[m]).f0.toList k.toList=true
 high:∀ m (h:m<l.length),p≤m→Op.bytesLess (l[m]).f0.toList k.toList=false
theorem Parts.one {l:List Ch} {k:ByteArray} {p q:Nat} (hp:Parts l k p) (hq:Parts l k q):p=q:=by
 rcases Nat.lt_trichotomy p q with h|h|h
 ·have h1:=hp.high p (by have:=hq.le;omega) (Nat.le_refl _)
  rw [hq.low p (by have:=hq.le;omega) h] at h1
  cases h1
 ·exact h
 ·have h1:=hq.high q (by have:=hp.le;omega) (Nat.le_refl _)
  rw [hp.low q (by have:=hp.le;omega) h] at h1
  cases h1
theorem cmp_less (a k:ByteArray):FE.cmp a k<0↔Op.bytesLess a.toList k.toList=true:=by
 unfold FE.cmp
 rw [ByteArray.toList_eq,ByteArray.toList_eq,less_cmp,decide_eq_true_eq]
theorem cmp_same (a k:ByteArray):(FE.cmp a k == 0)=(a.toList == k.toList):=by
 unfold FE.cmp
 rw [ByteArray.toList_eq,ByteArray.toList_eq]
 by_cases h:a.data.toList=k.data.toList
 ·rw [h,cB_refl];simp
 ·have:Lib.compareBytes a.data.toList k.data.toList≠0:=fun h2=>h (cB_zero _ _ h2)
  rw [beq_eq_false_iff_ne.2 this,beq_eq_false_iff_ne.2 h]
theorem less_le {a b k:List UInt8} (h1:Op.bytesLess a b=true) (h2:Op.bytesLess b k=true):Op.bytesLess a k=true:=less_trans_l _ _ _ h1 h2
section
variable (l:List Ch) (k:ByteArray)
theorem bs_parts (hs:l.Pairwise less):∀ f i j,i≤j→j≤l.length→j - i≤f→(∀ m (h:m<l.length),m<i→Op.bytesLess (l[m]).f0.toList k.toList=true)→(∀ m (h:m<l.length),j≤m→Op.bytesLess (l[m]).f0.toList k.toList=false) →
 Parts l k (FE.bs l k f i j):=by
 intro f
 induction f with
 | zero=>
  intro i j hij hj hf hlo hhi
  obtain rfl:i=j:=by omega
  exact ⟨hj,hlo,hhi⟩
 | succ f ih=>
  intro i j hij hj hf hlo hhi
  unfold FE.bs
  by_cases h:i<j
  ·rw [if_pos h]
   have hm:(i + j) / 2<l.length:=by omega
   rw [rdt_at l _ hm]
   by_cases hc:FE.cmp (l[(i + j) / 2]).f0 k<0
   ·rw [if_pos hc]
    have hc2:=(cmp_less _ _).1 hc
    refine ih ((i + j) / 2 + 1) j (by omega) hj (by omega) (fun m h1 h2=>?_) hhi
    rcases Nat.lt_or_ge m ((i + j) / 2) with h3|h3
    ·exact less_le (List.pairwise_iff_getElem.1 hs m ((i + j) / 2) h1 hm h3) hc2
    ·obtain rfl:m=(i + j) / 2:=by omega
     exact hc2
   ·rw [if_neg hc]
    have hc2:Op.bytesLess (l[(i + j) / 2]).f0.toList k.toList=false:=by
     cases hb:Op.bytesLess (l[(i + j) / 2]).f0.toList k.toList with
     | true=>exact absurd ((cmp_less _ _).2 hb) hc
     | false=>rfl
    refine ih i ((i + j) / 2) (by omega) (by omega) (by omega) hlo (fun m h1 h2=>?_)
    rcases Nat.eq_or_lt_of_le h2 with h3|h3
    ·subst h3;exact hc2
    ·cases hb:Op.bytesLess (l[m]).f0.toList k.toList with
     | false=>rfl
     | true=>
      have:=less_le (List.pairwise_iff_getElem.1 hs ((i + j) / 2) m hm h1 h3) hb
      rw [hc2] at this
      cases this
  ·rw [if_neg h]
   obtain rfl:i=j:=by omega
   exact ⟨hj,hlo,hhi⟩
theorem seek_ev (hs:l.Pairwise less):∃ p,Parts l k p∧Gt.f l k=some ((p:Int),if h:p<l.length then ((l[p]).f0.toList == k.toList) else false):=by
 refine ⟨_,bs_parts l k hs l.length 0 l.length (Nat.zero_le _) (Nat.le_refl _) (by omega) (fun m h h2=>absurd h2 (by omega)) (fun m h h2=>absurd h2 (by omega)),?_⟩
 unfold Gt.f FE.f
 generalize FE.bs l k l.length 0 l.length=p
 simp only [Option.bind_some,Option.some.injEq,Prod.mk.injEq,true_and]
 by_cases h:p<l.length
 ·rw [dif_pos h,decide_eq_true h,rdt_at l p h,cmp_same,Bool.true_and]
 ·rw [dif_neg h,decide_eq_false h,Bool.false_and]
end
theorem newest_from (key:ByteArray) (v:List V) (n:Int) (hv:v.length≤1000000) (d:Nat):∀ i,i + d=v.length→(∀ m (h:m<v.length),m<i→n<(v[m]).f0)→Ev (fun q=>FP.l0 q n (i:Int) key v) (if place v n<v.length then (place v n:Int) else -1):=by
 induction d with
 | zero=>
  intro i hi hlo
  have hp:place v n=v.length:=place_spec v n v.length (Nat.le_refl _) (fun m h _=>hlo m h (by omega)) (fun h=>absurd h (by omega))
  rw [if_neg (by omega)]
  exact Ev.step (fun q=>by simp only [FP.l0];rfl) (Ev.if_neg (by omega) (Ev.now _))
 | succ d ih=>
  intro i hi hlo
  have hlt:i<v.length:=by omega
  refine Ev.step (fun q=>by simp only [FP.l0];rfl) (Ev.if_pos (by omega) (Ev.if_pos (by omega) ?_))
  rw [HChain.rd_at v i hlt]
  refine Ev.iff (fun h=>?_) (fun h=>?_)
  ·have hp:place v n=i:=place_spec v n i (by omega) hlo (fun _=>h)
   rw [hp,if_pos hlt]
   exact Ev.now _
  ·rw [wrap_succ i (by omega)]
   refine ih (i + 1) (by omega) (fun m h2 h3=>?_)
   rcases Nat.lt_or_ge m i with h4|h4
   ·exact hlo m h2 h4
   ·obtain rfl:m=i:=by omega
    omega
theorem At_ev (key:ByteArray) (v:List V) (n:Int) (hv:v.length≤1000000):Ev (fun q=>FL.f q key v n) (match HChain.look v n with|some x=>(x.f0,x.f1,x.f2,true)|none=>(0,⟨#[]⟩,false,false)):=by
 unfold FL.f
 refine Ev.bind (a:=if place v n<v.length then (place v n:Int) else -1) (by unfold FP.f;exact newest_from key v n hv v.length 0 (by omega) (fun m h h2=>absurd h2 (by omega))) ?_
 unfold HChain.look
 by_cases h:place v n<v.length
 ·rw [if_pos h,dif_pos h]
  refine Ev.if_neg (by omega) (Ev.if_pos (by omega) (Ev.if_pos (by omega) ?_))
  rw [HChain.rd_at v _ h]
  refine Ev.step (fun q=>by simp only [FL.j0];rfl) ?_
  by_cases hg:(v[place v n]).f2=true
  ·have e:(if (v[place v n]).f2=true then (none:Option V) else some v[place v n])=none:=if_pos hg
   rw [e]
   exact Ev.if_pos hg (Ev.now _)
  ·have e:(if (v[place v n]).f2=true then (none:Option V) else some v[place v n])=some v[place v n]:=if_neg hg
   rw [e]
   refine Ev.if_neg hg (Ev.if_pos (by omega) (Ev.if_pos (by omega) ?_))
   rw [HChain.rd_at v _ h]
   exact Ev.now _
 ·rw [if_neg h,dif_neg h]
  refine Ev.if_pos (by omega) ?_
  exact Ev.step (fun q=>by simp only [FL.j0];rfl) (Ev.if_pos (by first|rfl|trivial) (Ev.now _))
end Go.Proofs.YtbaecdcfefmcgaaGreat.HTable
set_option linter.unusedSimpArgs false
set_option linter.unusedVariables false
namespace Go.Proofs.YtbaecdcfefmcgaaGreat.HChain
open Go.RowKit Go.Proofs.YtbaecdcfefmcgaaGreat.PVrd Go.Proofs.YtbaecdcfefmcgaaGreat.HNum Go.Proofs.YtbaecdcfefmcgaaGreatW.PrintWords Go.Proofs.YtbaecdcfefmcgaaGreatW.PrintLast
def left (l:List V) (n:Int):List V:=if h:place l n<l.length then (if (l[place l n]).f2=true then l.take (place l n) else l.take (place l n + 1)) else l
theorem take_snoc {α:Type} (l:List α) (j:Nat) (h:j<l.length):l.take j ++ [l[j]]=l.take (j + 1):=by rw [List.take_succ_eq_append_getElem h]
theorem copyv_from (l:List V) (hl:l.length≤4398046511104) (d:Nat):∀ j,j + d=l.length→Ev (fun k=>FT.l0 k l (l.take j) (j:Int)) l:=by
 induction d with
 | zero=>
  intro j hj
  refine Ev.step (fun k=>by simp only [FT.l0];rfl) ?_
  rw [List.take_of_length_le (by omega)]
  exact Ev.if_neg (by omega) (Ev.now _)
 | succ d ih=>
  intro j hj
  have hlt:j<l.length:=by omega
  refine Ev.step (fun k=>by simp only [FT.l0];rfl) ?_
  rw [rd_at l j hlt,wrap_succ j (by omega)]
  refine Ev.if_pos (by omega) ?_
  refine Ev.if_pos (by omega) ?_
  refine Ev.if_pos (by rw [List.length_take];omega) ?_
  have e:l.take j ++ [(⟨(l[j]).f0,(l[j]).f1,(l[j]).f2⟩:V)]=l.take (j + 1):=take_snoc l j hlt
  rw [e]
  exact ih (j + 1) (by omega)
theorem copyv_ev (l:List V) (hl:l.length≤4398046511104):Ev (fun k=>FT.f k l) l:=copyv_from l hl l.length 0 (by omega)
theorem copyc_ev (key:ByteArray) (l:List V) (hl:l.length≤4398046511104):Ev (fun k=>Gl.f k key l) (key,l):=by
 unfold Gl.f
 exact Ev.bind (copyv_ev l hl) (Ev.now _)
end Go.Proofs.YtbaecdcfefmcgaaGreat.HChain
set_option linter.unusedSimpArgs false
set_option linter.unusedVariables false
set_option linter.unusedSectionVars false
namespace Go.Proofs.YtbaecdcfefmcgaaGreat.HTable
open Go.RowKit Go.Proofs.YtbaecdcfefmcgaaGreat.PVrd Go.Proofs.YtbaecdcfefmcgaaGreat.HNum Go.Proofs.YtbaecdcfefmcgaaGreat.HChain Go.Proofs.YtbaecdcfefmcgaaGreatW.PrintWords Go.Proofs.YtbaecdcfefmcgaaGreatW.PrintLast
abbrev Rw:=S50
theorem rdr_at (l:List Rw) (j:Nat) (h:j<l.length):rd_T50 l (j:Int)=l[j]:=by simp [rd_T50,h]
def leftT (l:List Ch) (n:Int):List Ch:=l.filterMap (fun c=>if (left c.f1 n).length=0 then none else some ⟨c.f0,left c.f1 n⟩)
def rowsT (l:List Ch) (m:Int):List Rw:=l.filterMap (fun c=>(HChain.look c.f1 m).map (fun v=>(⟨c.f0,v.f1⟩:Rw)))
theorem rowsT_none {c:Ch} {l:List Ch} {m:Int} (hk:HChain.look c.f1 m=none):rowsT (c :: l) m=rowsT l m:=by unfold rowsT;rw [List.filterMap_cons_none (by rw [hk];rfl)]
theorem rowsT_some {c:Ch} {l:List Ch} {m:Int} {v:V} (hk:HChain.look c.f1 m=some v):rowsT (c :: l) m=⟨c.f0,v.f1⟩ :: rowsT l m:=by unfold rowsT;rw [List.filterMap_cons_some (by rw [hk];rfl)]
section
variable (l:List Ch) (n:Int) (hl:l.length≤1000000) (hv:∀ c∈l,c.f1.length≤1000000)
include hl hv
theorem Rows_from (d:Nat):∀ (j:Nat) (acc:List Rw),j + d=l.length→acc.length≤j →
 Ev (fun k=>FM.l0 k n acc l (l.length:Int) (j:Int)) (acc ++ rowsT (l.drop j) n):=by
 induction d with
 | zero=>
  intro j acc hj ha
  rw [List.drop_eq_nil_of_le (by omega)]
  exact Ev.step (fun k=>by simp only [FM.l0];rfl) (Ev.if_neg (by omega) (by simpa [rowsT] using Ev.now acc))
 | succ d ih=>
  intro j acc hj ha
  have hlt:j<l.length:=by omega
  refine Ev.step (fun k=>by simp only [FM.l0];rfl) (Ev.if_pos (by omega) (Ev.if_pos (by omega) (Ev.if_pos (by omega) ?_)))
  rw [rdc_at l j hlt,wrap_succ j (by omega),List.drop_eq_getElem_cons hlt]
  refine Ev.bind (Look_ev (l[j]).f0 (l[j]).f1 n) ?_
  cases hk:HChain.look (l[j]).f1 n with
  | none=>
   rw [rowsT_none hk]
   exact Ev.if_neg (by simp) (ih (j + 1) acc (by omega) (by omega))
  | some v=>
   rw [rowsT_some hk]
   refine Ev.if_pos (by first|rfl|trivial) (Ev.if_pos (by omega) ?_)
   have h:=ih (j + 1) (acc ++ [⟨(l[j]).f0,v.f1⟩]) (by omega) (by simp;omega)
   rw [List.append_assoc] at h
   exact h
theorem Rows_ev:Ev (fun k=>FM.f k l n) (rowsT l n):=by
 have h:=Rows_from l n hl hv l.length 0 [] (by omega) (by simp)
 rw [List.drop_zero,List.nil_append] at h
 exact h
theorem refMap_from (d:Nat):∀ (j:Nat) (acc:List Rw),j + d=l.length→acc.length≤j →
 Ev (fun k=>Fz.l0 k n acc (j:Int) l) (acc ++ rowsT (l.drop j) n):=by
 induction d with
 | zero=>
  intro j acc hj ha
  rw [List.drop_eq_nil_of_le (by omega)]
  exact Ev.step (fun k=>by simp only [Fz.l0];rfl) (Ev.if_neg (by omega) (by simpa [rowsT] using Ev.now acc))
 | succ d ih=>
  intro j acc hj ha
  have hlt:j<l.length:=by omega
  have hb:=hv l[j] (List.getElem_mem hlt)
  refine Ev.step (fun k=>by simp only [Fz.l0];rfl) (Ev.if_pos (by omega) (Ev.if_pos (by omega) ?_))
  rw [rdc_at l j hlt,wrap_succ j (by omega),List.drop_eq_getElem_cons hlt]
  refine Ev.bind (At_ev (l[j]).f0 (l[j]).f1 n (by omega)) ?_
  cases hk:HChain.look (l[j]).f1 n with
  | none=>
   rw [rowsT_none hk]
   exact Ev.if_neg (by simp) (ih (j + 1) acc (by omega) (by omega))
  | some v=>
   rw [rowsT_some hk]
   refine Ev.if_pos (by first|rfl|trivial) (Ev.if_pos (by omega) ?_)
   have h:=ih (j + 1) (acc ++ [⟨(l[j]).f0,v.f1⟩]) (by omega) (by simp;omega)
   rw [List.append_assoc] at h
   exact h
theorem refMap_ev:Ev (fun k=>Fz.f k l n) (rowsT l n):=by
 have h:=refMap_from l n hl hv l.length 0 [] (by omega) (by simp)
 rw [List.drop_zero,List.nil_append] at h
 exact h
theorem copyCh_from (d:Nat):∀ j,j + d=l.length→Ev (fun k=>FU.l0 k l (l.take j) (j:Int)) l:=by
 induction d with
 | zero=>
  intro j hj
  refine Ev.step (fun k=>by simp only [FU.l0];rfl) (Ev.if_neg (by omega) ?_)
  rw [List.take_of_length_le (by omega)]
  exact Ev.now _
 | succ d ih=>
  intro j hj
  have hlt:j<l.length:=by omega
  have hb:=hv l[j] (List.getElem_mem hlt)
  refine Ev.step (fun k=>by simp only [FU.l0];rfl) (Ev.if_pos (by omega) (Ev.if_pos (by omega) ?_))
  rw [rdc_at l j hlt,wrap_succ j (by omega)]
  refine Ev.bind (copyc_ev (l[j]).f0 (l[j]).f1 (by omega)) ?_
  refine Ev.if_pos (by rw [List.length_take];omega) ?_
  rw [show l.take j ++ [(⟨(l[j]).f0,(l[j]).f1⟩:Ch)]=l.take (j + 1) from take_snoc l j hlt]
  exact ih (j + 1) (by omega)
theorem copyCh_ev:Ev (fun k=>FU.f k l) l:=copyCh_from l hl hv l.length 0 (by omega)
theorem copyT_ev:Ev (fun k=>Gm.f k l) l:=by
 unfold Gm.f
 exact Ev.bind (copyCh_ev l hl hv) (Ev.now _)
theorem EqVersions_same (m:List V) (hm:m.length≤1000000) (d:Nat):∀ j,j + d=m.length→Ev (fun k=>FW.l0 k m m (j:Int)) true:=by
 induction d with
 | zero=>intro j hj;exact Ev.step (fun k=>by simp only [FW.l0];rfl) (Ev.if_neg (by omega) (Ev.now true))
 | succ d ih=>
  intro j hj
  refine Ev.step (fun k=>by simp only [FW.l0];rfl) ?_
  rw [wrap_succ j (by omega)]
  exact Ev.if_pos (by omega) (Ev.if_pos (by omega) (Ev.if_pos (by omega) (Ev.if_neg (by simp) (ih (j + 1) (by omega)))))
theorem EqChain_same (c:Ch) (hc:c.f1.length≤1000000):Ev (fun k=>Gg.f k c.f0 c.f1 c.f0 c.f1) true:=by
 unfold Gg.f FW.f
 exact Ev.if_pos rfl (Ev.bind (Ev.if_pos rfl (EqVersions_same l hl hv c.f1 hc c.f1.length 0 (by omega))) (Ev.now true))
theorem EqChains_from (d:Nat):∀ j,j + d=l.length→Ev (fun k=>FB.l0 k l l (j:Int)) true:=by
 induction d with
 | zero=>intro j hj;exact Ev.step (fun k=>by simp only [FB.l0];rfl) (Ev.if_neg (by omega) (Ev.now true))
 | succ d ih=>
  intro j hj
  have hlt:j<l.length:=by omega
  have hb:=hv l[j] (List.getElem_mem hlt)
  refine Ev.step (fun k=>by simp only [FB.l0];rfl) (Ev.if_pos (by omega) (Ev.if_pos (by omega) (Ev.if_pos (by omega) ?_)))
  rw [rdc_at l j hlt,wrap_succ j (by omega)]
  exact Ev.bind (EqChain_same l hl hv l[j] hb) (Ev.if_pos (by first|rfl|trivial) (ih (j + 1) (by omega)))
theorem EqTable_same:Ev (fun k=>Gh.f k l l) true:=by
 unfold Gh.f FB.f
 exact Ev.bind (Ev.if_pos rfl (EqChains_from l hl hv l.length 0 (by omega))) (Ev.now true)
end
theorem EqRows_same (l:List Rw) (hl:l.length≤4611686018427387904):Ev (fun k=>FQ.f k l l) true:=by
 have key:∀ d j:Nat,j + d=l.length→Ev (fun k=>FQ.l0 k l l (j:Int)) true:=by
  intro d
  induction d with
  | zero=>
   intro j hj
   exact Ev.step (fun k=>by simp only [FQ.l0];rfl) (Ev.if_neg (by omega) (Ev.now true))
  | succ d ih=>
   intro j hj
   refine Ev.step (fun k=>by simp only [FQ.l0];rfl) ?_
   rw [wrap_succ j (by omega)]
   exact Ev.if_pos (by omega) (Ev.if_pos (by omega) (Ev.if_pos (by omega) (Ev.if_neg (by simp) (ih (j + 1) (by omega)))))
 unfold FQ.f
 exact Ev.if_pos rfl (key l.length 0 (by omega))
theorem rowsT_len (l:List Ch) (m:Int):(rowsT l m).length≤l.length:=List.length_filterMap_le ..
def rangeOK (lo hi:ByteArray) (top:Bool):Bool:=if lo.size≤13∧hi.size≤13 then (if top=true then (hi.toList == ([]:List UInt8)) else (!(Op.bytesLess hi.toList lo.toList))) else false
theorem keyMay_ev (lo hi:ByteArray) (top:Bool):Ev (fun k=>FI.f k lo hi top) (rangeOK lo hi top):=by
 unfold FI.f rangeOK
 by_cases h1:lo.size≤13
 ·refine Ev.if_neg (by omega) (Ev.step (fun k=>by simp only [FI.j0];rfl) ?_)
  by_cases h2:hi.size≤13
  ·rw [show decide ((hi.size:Int) > 13)=false from decide_eq_false (by omega),if_pos (show lo.size≤13∧hi.size≤13 from ⟨h1,h2⟩)]
   refine Ev.if_neg (by simp) ?_
   cases top with
   | true=>exact Ev.if_pos (by first|rfl|trivial) (Ev.now _)
   | false=>exact Ev.if_neg (by simp) (Ev.now _)
  ·rw [show decide ((hi.size:Int) > 13)=true from decide_eq_true (by omega),if_neg (show ¬ (lo.size≤13∧hi.size≤13) from fun h=>h2 h.2)]
   exact Ev.if_pos (by first|rfl|trivial) (Ev.now _)
 ·rw [if_neg (show ¬ (lo.size≤13∧hi.size≤13) from fun h=>h1 h.1)]
  exact Ev.if_pos (by omega) (Ev.step (fun k=>by simp only [FI.j0];rfl) (Ev.if_pos (by first|rfl|trivial) (Ev.now _)))
theorem refRange_ev (lo hi:ByteArray) (top:Bool):Ev (fun k=>FH.f k lo hi top) (rangeOK lo hi top):=by
 unfold FH.f rangeOK
 by_cases h1:lo.size≤13
 ·refine Ev.if_neg (by omega) (Ev.step (fun k=>by simp only [FH.j0];rfl) ?_)
  by_cases h2:hi.size≤13
  ·rw [show decide ((hi.size:Int) > 13)=false from decide_eq_false (by omega),if_pos (show lo.size≤13∧hi.size≤13 from ⟨h1,h2⟩)]
   refine Ev.if_neg (by simp) ?_
   cases top with
   | true=>exact Ev.if_pos (by first|rfl|trivial) (Ev.now _)
   | false=>exact Ev.if_neg (by simp) (Ev.now _)
  ·rw [show decide ((hi.size:Int) > 13)=true from decide_eq_true (by omega),if_neg (show ¬ (lo.size≤13∧hi.size≤13) from fun h=>h2 h.2)]
   exact Ev.if_pos (by first|rfl|trivial) (Ev.now _)
 ·rw [if_neg (show ¬ (lo.size≤13∧hi.size≤13) from fun h=>h1 h.1)]
  exact Ev.if_pos (by omega) (Ev.step (fun k=>by simp only [FH.j0];rfl) (Ev.if_pos (by first|rfl|trivial) (Ev.now _)))
def asksOK (lo hi:ByteArray) (top:Bool) (m:Int):Bool:=rangeOK lo hi top && decide (0≤m∧m≤1073741824)
theorem Asks_ev (lo hi:ByteArray) (top:Bool) (m:Int):Ev (fun k=>Ge.f k lo hi top m) (asksOK lo hi top m):=by
 unfold Ge.f asksOK
 refine Ev.bind (keyMay_ev lo hi top) ?_
 cases rangeOK lo hi top with
 | true=>
  refine Ev.if_pos (by first|rfl|trivial) ?_
  rw [Bool.true_and]
  by_cases h:0≤m
  ·rw [show decide (0≤m∧m≤1073741824)=decide (m≤1073741824) by rw [decide_eq_decide];omega]
   exact Ev.if_pos h (Ev.now _)
  ·rw [show decide (0≤m∧m≤1073741824)=false from decide_eq_false (fun h2=>h h2.1)]
   exact Ev.if_neg h (Ev.now _)
 | false=>exact Ev.if_neg (by simp) (Ev.now _)
theorem Has_eq (lo hi:ByteArray) (top:Bool) (x:Rw):Gz.f lo hi top x.f0=some (HSome.keep lo hi top x):=by
 unfold Gz.f HSome.keep
 cases Op.bytesLess x.f0.toList lo.toList <;> cases top <;> simp
section
variable (l:List Rw) (lo hi:ByteArray) (top back:Bool) (n:Int) (hl:l.length≤1000000)
def turned:List Rw:=if back=true then l.reverse else l
theorem turned_len:(turned l back).length=l.length:=by unfold turned;split <;> simp
include hl
theorem refRows_from (d:Nat):∀ (j:Nat) (acc:List Rw),j + d=l.length→acc.length≤j →
 Ev (fun k=>Ff.l0 k l n back acc (j:Int) lo hi top) (acc ++ (((turned l back).drop j).filter (HSome.keep lo hi top)).take (n.toNat - acc.length)):=by
 have htl:=turned_len l back
 induction d with
 | zero=>
  intro j acc hj ha
  rw [List.drop_eq_nil_of_le (by omega)]
  exact Ev.step (fun k=>by simp only [Ff.l0];rfl) (Ev.if_neg (by omega) (by simpa using Ev.now acc))
 | succ d ih=>
  intro j acc hj ha
  have hlt:j<l.length:=by omega
  have hjt:j<(turned l back).length:=by omega
  have key:∀ q:Nat,(hq:q<l.length)→l[q]=(turned l back)[j]→Ev (fun k=>Ff.j1 k l n back acc (j:Int) (q:Int) lo hi top) (acc ++ (((turned l back).drop j).filter (HSome.keep lo hi top)).take (n.toNat - acc.length)):=fun q hq hx=>by
   rw [List.drop_eq_getElem_cons hjt,← hx]
   have skip:∀ r,r=acc ++ (((turned l back).drop (j + 1)).filter (HSome.keep lo hi top)).take (n.toNat - acc.length)→Ev (fun k=>Ff.j2 k l n back acc (j:Int) (q:Int) false lo hi top) r:=fun r hr=>by
    subst hr
    refine Ev.step (fun k=>by simp only [Ff.j2];rfl) (Ev.if_neg (by simp) ?_)
    rw [wrap_succ j (by omega)]
    exact ih (j + 1) acc (by omega) (by omega)
   refine Ev.step (fun k=>by simp only [Ff.j1];rfl) ?_
   by_cases hn:(acc.length:Int)<n
   ·refine Ev.if_pos hn (Ev.if_pos (by omega) (Ev.if_pos (by omega) ?_))
    rw [rdr_at l q hq]
    refine Ev.bind0 (Has_eq lo hi top l[q]) ?_
    cases hk:HSome.keep lo hi top l[q] with
    | true=>
     rw [List.filter_cons_of_pos hk]
     refine Ev.step (fun k=>by simp only [Ff.j2];rfl) (Ev.if_pos (by first|rfl|trivial) (Ev.if_pos (by omega) (Ev.if_pos (by omega) (Ev.if_pos (by omega) ?_))))
     rw [rdr_at l q hq,wrap_succ j (by omega)]
     have h:=ih (j + 1) (acc ++ [⟨(l[q]).f0,(l[q]).f1⟩]) (by omega) (by simp;omega)
     have e:n.toNat - acc.length=(n.toNat - (acc ++ [(⟨(l[q]).f0,(l[q]).f1⟩:Rw)]).length) + 1:=by simp;omega
     rw [e,List.take_succ_cons]
     rw [List.append_assoc] at h
     exact h
    | false=>
     rw [List.filter_cons_of_neg (by simp [hk])]
     exact skip _ rfl
   ·refine Ev.if_neg hn (skip _ ?_)
    rw [show n.toNat - acc.length=0 by omega,List.take_zero,List.take_zero]
  refine Ev.step (fun k=>by simp only [Ff.l0];rfl) (Ev.if_pos (by omega) ?_)
  cases back with
  | true=>
   refine Ev.if_pos (by first|rfl|trivial) ?_
   rw [show wrap64 (wrap64 ((l.length:Int) - 1) - (j:Int))=((l.length - 1 - j:Nat):Int) by unfold wrap64;omega]
   exact key _ (by omega) (by simp only [turned,if_true,List.getElem_reverse])
  | false=>
   refine Ev.if_neg (by simp) ?_
   exact key _ hlt (by simp [turned])
theorem refRows_ev:Ev (fun k=>Ff.f k l lo hi top n back) (HSome.someOf l lo hi top n back):=by
 have h:=refRows_from l lo hi top back n hl l.length 0 [] (by omega) (by simp)
 have e:HSome.someOf l lo hi top n back=[] ++ (((turned l back).drop 0).filter (HSome.keep lo hi top)).take (n.toNat - ([]:List Rw).length):=by
  unfold HSome.someOf turned
  cases back <;> simp [List.filter_reverse]
 rw [e]
 exact h
end
section
variable (l:List Ch) (lo hi:ByteArray) (top back:Bool) (n m:Int) (hl:l.length≤1000000) (hv:∀ c∈l,c.f1.length≤1000000)
include hl hv
end
end Go.Proofs.YtbaecdcfefmcgaaGreat.HTable
set_option linter.unusedSimpArgs false
set_option linter.unusedVariables false
namespace Go.Proofs.YtbaecdcfefmcgaaGreat.HAll
open Go.Lib Go.Sort Go.RowKit Go.Proofs.YtbaecdcfefmcgaaGreat.PVrd
abbrev Wr:=S72
theorem cB_cons (a b:UInt8) (xs ys:List UInt8):compareBytes (a :: xs) (b :: ys)=if a.toNat<b.toNat then -1 else if b.toNat<a.toNat then 1 else compareBytes xs ys:=by
 rw [compareBytes]
 simp only [UInt8.lt_iff_toNat_lt]
theorem cB_refl:∀ a,compareBytes a a=0
 | []=>rfl
 | a :: xs=>by rw [cB_cons,if_neg (by omega),if_neg (by omega)];exact cB_refl xs
theorem cB_anti:∀ a b,compareBytes b a = - compareBytes a b
 | [],[]=>rfl
 | [],_ :: _=>rfl
 | _ :: _,[]=>rfl
 | a :: xs,b :: ys=>by
  rw [cB_cons,cB_cons]
  by_cases h1:a.toNat<b.toNat
  ·rw [if_pos h1,if_neg (by omega),if_pos h1];rfl
  ·by_cases h2:b.toNat<a.toNat
   ·simp [h1,h2]
   ·rw [if_neg h1,if_neg h2,if_neg h2,if_neg h1];exact cB_anti xs ys
theorem cB_zero:∀ a b,compareBytes a b=0→a=b
 | [],[]=>fun _=>rfl
 | [],_ :: _=>fun h=>by simp [compareBytes] at h
 | _ :: _,[]=>fun h=>by simp [compareBytes] at h
 | a :: xs,b :: ys=>fun h=>by
  rw [cB_cons] at h
  by_cases h1:a.toNat<b.toNat
  ·rw [if_pos h1] at h;simp at h
  ·by_cases h2:b.toNat<a.toNat
   ·rw [if_neg h1,if_pos h2] at h;simp at h
   ·rw [if_neg h1,if_neg h2] at h
    rw [UInt8.toNat_inj.1 (show a.toNat=b.toNat by omega),cB_zero xs ys h]
theorem cB_trans:∀ a b c,compareBytes a b<0→compareBytes b c<0→compareBytes a c<0
 | [],[],_=>fun h _=>by simp [compareBytes] at h
 | [],_ :: _,[]=>fun _ h=>by simp [compareBytes] at h
 | [],_ :: _,_ :: _=>fun _ _=>by simp [compareBytes]
 | _ :: _,[],_=>fun h _=>by simp [compareBytes] at h
 | _ :: _,_ :: _,[]=>fun _ h=>by simp [compareBytes] at h
 | a :: xs,b :: ys,c :: zs=>fun h1 h2=>by
  rw [cB_cons] at h1 h2 ⊢
  by_cases e1:a.toNat<b.toNat
  ·by_cases e2:b.toNat<c.toNat
   ·rw [if_pos (by omega)];decide
   ·by_cases e3:c.toNat<b.toNat
    ·rw [if_neg e2,if_pos e3] at h2;omega
    ·rw [if_pos (by omega)];decide
  ·by_cases e2:b.toNat<a.toNat
   ·rw [if_neg e1,if_pos e2] at h1;omega
   ·rw [if_neg e1,if_neg e2] at h1
    by_cases e3:b.toNat<c.toNat
    ·rw [if_pos (by omega)];decide
    ·by_cases e4:c.toNat<b.toNat
     ·rw [if_neg e3,if_pos e4] at h2;omega
     ·rw [if_neg e3,if_neg e4] at h2
      rw [if_neg (by omega),if_neg (by omega)]
      exact cB_trans xs ys zs h1 h2
def cmpK (x y:Wr):Int:=compareBytes x.f1.data.toList y.f1.data.toList
def ltT (x y:Wr):Bool:=decide (x.f0<y.f0∨(x.f0=y.f0∧cmpK x y<0))
theorem cmpK_ntrans (x y z:Wr) (h1:0≤cmpK x y) (h2:0≤cmpK y z):0≤cmpK x z:=by
 unfold cmpK at *
 rcases Int.lt_or_eq_of_le h1 with h3|h3
 ·rcases Int.lt_or_eq_of_le h2 with h4|h4
  ·have a1:=cB_anti x.f1.data.toList y.f1.data.toList
   have a2:=cB_anti y.f1.data.toList z.f1.data.toList
   have a3:=cB_anti x.f1.data.toList z.f1.data.toList
   have:=cB_trans _ _ _ (show compareBytes z.f1.data.toList y.f1.data.toList<0 by omega) (show compareBytes y.f1.data.toList x.f1.data.toList<0 by omega)
   omega
  ·rw [← cB_zero _ _ h4.symm];exact h1
 ·rw [cB_zero _ _ h3.symm];exact h2
theorem ltT_swo:SWO ltT where
 irrefl:=fun x=>by
  unfold ltT cmpK
  rw [cB_refl]
  simp
 trans:=fun x y z h1 h2=>by
  unfold ltT at *
  rw [decide_eq_true_eq] at *
  rcases h1 with h1|⟨h1,h1'⟩
  ·rcases h2 with h2|⟨h2,h2'⟩
   ·exact Or.inl (by omega)
   ·exact Or.inl (by omega)
  ·rcases h2 with h2|⟨h2,h2'⟩
   ·exact Or.inl (by omega)
   ·exact Or.inr ⟨by omega,cB_trans _ _ _ h1' h2'⟩
 ntrans:=fun x y z h1 h2=>by
  unfold ltT at *
  rw [decide_eq_false_iff_not] at *
  intro h3
  rcases h3 with h3|⟨h3,h3'⟩
  ·by_cases e:x.f0<y.f0
   ·exact h1 (Or.inl e)
   ·exact h2 (Or.inl (by omega))
  ·by_cases e:x.f0=y.f0
   ·have k1:0≤cmpK x y:=by
     rcases Int.lt_or_le (cmpK x y) 0 with h|h
     ·exact absurd (Or.inr ⟨e,h⟩) h1
     ·exact h
    have k2:0≤cmpK y z:=by
     rcases Int.lt_or_le (cmpK y z) 0 with h|h
     ·exact absurd (Or.inr ⟨by omega,h⟩) h2
     ·exact h
    have:=cmpK_ntrans x y z k1 k2
    omega
   ·by_cases e2:x.f0<y.f0
    ·exact h1 (Or.inl e2)
    ·exact h2 (Or.inl (by omega))
def okT (x:Wr):Prop:=0≤x.f0∧x.f0<3
def sameK (x y:Wr):Prop:=x.f0=y.f0∧x.f1.data.toList=y.f1.data.toList
theorem wrap_ok {x y:Wr} (hx:okT x) (hy:okT y):wrap64 (x.f0 - y.f0)=x.f0 - y.f0:=by
 obtain ⟨a,b⟩:=hx
 obtain ⟨c,d⟩:=hy
 unfold wrap64
 omega
theorem lt_ok {x y:Wr} (hx:okT x) (hy:okT y):ltOf ordOf x y=ltT x y:=by
 unfold ltOf ordOf ltT cmpK
 rw [wrap_ok hx hy,decide_eq_decide]
 by_cases h:x.f0 - y.f0≠0
 ·rw [if_pos h]
  constructor
  ·intro h2;exact Or.inl (by omega)
  ·rintro (h2|⟨h2,_⟩)
   ·omega
   ·omega
 ·rw [if_neg h]
  constructor
  ·intro h2;exact Or.inr ⟨by omega,h2⟩
  ·rintro (h2|⟨_,h2⟩)
   ·omega
   ·exact h2
theorem eq_ok {x y:Wr} (hx:okT x) (hy:okT y):eqO x y=true↔sameK x y:=by
 unfold eqO ordOf sameK
 rw [wrap_ok hx hy,beq_iff_eq]
 by_cases h:x.f0 - y.f0≠0
 ·rw [if_pos h]
  constructor
  ·intro h2;exact absurd h2 h
  ·rintro ⟨h2,_⟩;omega
 ·rw [if_neg h]
  constructor
  ·intro h2;exact ⟨by omega,cB_zero _ _ h2⟩
  ·rintro ⟨_,h2⟩;rw [h2];exact cB_refl _
def okA (d:Array Wr):Prop:=∀ x∈d.toList,okT x
theorem okA_get {d:Array Wr} (h:okA d) {i:Nat} (hi:i<d.size):okT d[i]!:=by
 rw [getElem!_pos d i hi]
 exact h _ (by rw [← Array.getElem_toList];exact List.getElem_mem _)
theorem okA_perm {d d':Array Wr} (h:okA d) (hp:PermIn 0 d.size d d'):okA d':=by
 obtain ⟨h1,_,h3⟩:=hp
 intro x hx
 have e1:d'.extract 0 d.size=d':=by rw [← h1];exact Array.extract_size
 have e2:d.extract 0 d.size=d:=Array.extract_size
 rw [e1,e2] at h3
 exact h x (h3.mem_iff.1 hx)
theorem inner_same (a:Nat):∀ (j:Nat) (d:Array Wr),j<d.size→okA d→insInner (ltOf ordOf) a j d=insInner ltT a j d
 | 0,d,_,_=>rfl
 | j + 1,d,hj,hd=>by
  unfold insInner
  rw [lt_ok (okA_get hd hj) (okA_get hd (show j<d.size by omega))]
  split
  ·refine inner_same a j _ (by rw [size_swp];omega) (okA_perm hd ?_)
   exact swp_permIn d 0 d.size (j + 1) j (by omega) (by omega) (by omega) (by omega) (Nat.le_refl _)
  ·rfl
theorem inner_ok (a:Nat):∀ (j:Nat) (d:Array Wr),j<d.size→okA d→okA (insInner ltT a j d)
 | 0,d,_,h=>h
 | j + 1,d,hj,hd=>by
  unfold insInner
  split
  ·exact inner_ok a j _ (by rw [size_swp];omega) (okA_perm hd (swp_permIn d 0 d.size (j + 1) j (by omega) (by omega) (by omega) (by omega) (Nat.le_refl _)))
  ·exact hd
theorem outer_same (a b:Nat):∀ (m i:Nat) (d:Array Wr),b - i≤m→b≤d.size→okA d→insOuter (ltOf ordOf) a b i d=insOuter ltT a b i d
 | 0,i,d,h,_,_=>by rw [insOuter_stop _ a b i d (by omega),insOuter_stop _ a b i d (by omega)]
 | m + 1,i,d,h,hb,hd=>by
  by_cases hi:i<b
  ·rw [insOuter_go _ a b i d hi,insOuter_go _ a b i d hi,inner_same a i d (by omega) hd]
   exact outer_same a b m (i + 1) _ (by omega) (by rw [size_insInner];exact hb) (inner_ok a i d (by omega) hd)
  ·rw [insOuter_stop _ a b i d hi,insOuter_stop _ a b i d hi]
theorem sort_facts (l:List Wr) (hl:∀ x∈l,okT x):(sortOf l).Perm l∧∀ i j,i<j→j<l.length→ltT (sortOf l)[j]! (sortOf l)[i]! = false:=by
 have e:Sort.insertionSort (ltOf ordOf) l.toArray 0 l.length=Sort.insertionSort ltT l.toArray 0 l.length:=outer_same 0 l.length _ _ l.toArray (Nat.le_refl _) (by simp) (by simpa [okA] using hl)
 obtain ⟨hp,hs⟩:=insertionSort_holds ltT_swo l.toArray 0 l.length (Nat.zero_le _) (by simp)
 have hsz:(Sort.insertionSort ltT l.toArray 0 l.length).size=l.length:=by rw [size_ins];simp
 unfold sortOf
 rw [e]
 generalize Sort.insertionSort ltT l.toArray 0 l.length=X at hp hs hsz ⊢
 constructor
 ·obtain ⟨_,_,h3⟩:=hp
  have e1:X.extract 0 l.length=X:=by
   have h:X.extract 0 X.size=X:=Array.extract_size
   rwa [hsz] at h
  have e2:l.toArray.extract 0 l.length=l.toArray:=by
   have h:l.toArray.extract 0 l.toArray.size=l.toArray:=Array.extract_size
   rwa [List.size_toArray] at h
  rw [e1,e2] at h3
  exact h3
 ·intro i j hij hj
  have h:=hs i j (Nat.zero_le _) hij hj
  have g:∀ k,k<l.length→X.toList[k]! = X[k]!:=fun k hk=>by
   rw [getElem!_pos X k (by omega),getElem!_pos X.toList k (by simpa [hsz] using hk),Array.getElem_toList]
  rw [g j hj,g i (by omega)]
  exact h
theorem all_len (l:List Wr):(allOf l).length≤l.length:=by
 unfold allOf runsOf cmpUp
 rw [List.length_map]
 refine Nat.le_trans (List.length_filter_le _ _) ?_
 rw [List.length_range,sortOf_len,List.length_reverse]
 exact Nat.le_refl _
theorem all_mem (l:List Wr) (hl:∀ x∈l,okT x):∀ x∈allOf l,x∈l:=by
 intro x hx
 unfold allOf runsOf cmpUp at hx
 obtain ⟨j,hj,rfl⟩:=List.mem_map.1 hx
 have hj2:=List.mem_range.1 (List.mem_filter.1 hj).1
 have hp:=(sort_facts l.reverse (fun x h=>hl x (List.mem_reverse.1 h))).1
 rw [getElem!_pos _ j (by simpa using hj2)]
 exact List.mem_reverse.1 (hp.mem_iff.1 (by simp))
end Go.Proofs.YtbaecdcfefmcgaaGreat.HAll
set_option linter.unusedSimpArgs false
set_option linter.unusedVariables false
namespace Go.Proofs.YtbaecdcfefmcgaaGreat.HAll
open Go.Lib Go.Sort Go.RowKit Go.Proofs.YtbaecdcfefmcgaaGreat.PVrd
theorem list_swap (A B:List Wr) (x y:Wr):((A ++ x :: y :: B).set (A.length + 1) x).set A.length y=A ++ y :: x :: B:=by
 induction A with
 | nil=>rfl
 | cons a A ih=>simp
theorem filter_swp (p:Wr→Bool) (d:Array Wr) (j:Nat) (hj:j + 1<d.size) (h:¬ (p d[j]! = true∧p d[j + 1]! = true)):(swp d (j + 1) j).toList.filter p=d.toList.filter p:=by
 have hl:d.toList.length=d.size:=Array.length_toList
 have e1:d[j]! = d.toList[j]'(by omega):=by rw [getElem!_pos d j (by omega),Array.getElem_toList]
 have e2:d[j + 1]! = d.toList[j + 1]'(by omega):=by rw [getElem!_pos d (j + 1) hj,Array.getElem_toList]
 have hd:d.toList=d.toList.take j ++ d[j]! :: d[j + 1]! :: d.toList.drop (j + 2):=by
  rw [e1,e2,← List.drop_eq_getElem_cons (by omega),← List.drop_eq_getElem_cons (by omega),List.take_append_drop]
 have hs:(swp d (j + 1) j).toList=d.toList.take j ++ d[j + 1]! :: d[j]! :: d.toList.drop (j + 2):=by
  unfold swp
  rw [Array.toList_setIfInBounds,Array.toList_setIfInBounds]
  have ht:(d.toList.take j).length=j:=by rw [List.length_take];omega
  have:=list_swap (d.toList.take j) (d.toList.drop (j + 2)) d[j]! d[j + 1]!
  rw [ht] at this
  rw [← this,← hd]
 rw [hs]
 conv=>rhs;rw [hd]
 simp only [List.filter_append,List.filter_cons]
 by_cases h1:p d[j]! = true
 ·by_cases h2:p d[j + 1]! = true
  ·exact absurd ⟨h1,h2⟩ h
  ·simp [h1,h2]
 ·simp [h1]
def OneKey (p:Wr→Bool):Prop:=∀ x y,p x=true→p y=true→ltT y x=false
theorem inner_stable (p:Wr→Bool) (hp:OneKey p) (a:Nat):∀ (j:Nat) (d:Array Wr),j<d.size→(insInner ltT a j d).toList.filter p=d.toList.filter p
 | 0,d,_=>rfl
 | j + 1,d,hj=>by
  unfold insInner
  split
  ·rename_i hc
   simp only [Bool.and_eq_true] at hc
   rw [inner_stable p hp a j _ (by rw [size_swp];omega)]
   refine filter_swp p d j hj (fun h=>?_)
   have:=hp _ _ h.1 h.2
   rw [hc.2] at this
   cases this
  ·rfl
theorem outer_stable (p:Wr→Bool) (hp:OneKey p) (a b:Nat):∀ (m i:Nat) (d:Array Wr),b - i≤m→b≤d.size→(insOuter ltT a b i d).toList.filter p=d.toList.filter p
 | 0,i,d,h,_=>by rw [insOuter_stop _ a b i d (by omega)]
 | m + 1,i,d,h,hb=>by
  by_cases hi:i<b
  ·rw [insOuter_go _ a b i d hi,outer_stable p hp a b m (i + 1) _ (by omega) (by rw [size_insInner];exact hb),inner_stable p hp a i d (by omega)]
  ·rw [insOuter_stop _ a b i d hi]
theorem sort_stable (l:List Wr) (hl:∀ x∈l,okT x) (p:Wr→Bool) (hp:OneKey p):(sortOf l).filter p=l.filter p:=by
 have e:Sort.insertionSort (ltOf ordOf) l.toArray 0 l.length=Sort.insertionSort ltT l.toArray 0 l.length:=outer_same 0 l.length _ _ l.toArray (Nat.le_refl _) (by simp) (by simpa [okA] using hl)
 unfold sortOf
 rw [e]
 exact outer_stable p hp 0 l.length _ _ l.toArray (Nat.le_refl _) (by simp)
def keyB (x y:Wr):Bool:=decide (y.f0=x.f0∧y.f1.data.toList=x.f1.data.toList)
theorem keyB_one (x:Wr):OneKey (keyB x):=by
 intro a b ha hb
 unfold keyB at ha hb
 rw [decide_eq_true_iff] at ha hb
 unfold ltT cmpK
 rw [ha.2,hb.2,cB_refl,ha.1,hb.1]
 simp
theorem keyB_self (x:Wr):keyB x x=true:=by simp [keyB]
theorem keyB_congr {x y:Wr} (h:keyB x y=true):keyB x=keyB y:=by
 unfold keyB at *
 rw [decide_eq_true_iff] at h
 funext z
 rw [h.1,h.2]
theorem mem_cmpUp (s:List Wr) (hok:∀ x∈s,okT x) (hs:∀ i j,i<j→j<s.length→ltT s[j]! s[i]! = false) (x:Wr):∀ n,n≤s.length→(x∈cmpUp eqO s.toArray n↔((s.take n).filter (keyB x)).head? = some x)
 | 0,_=>by simp [cmpUp]
 | n + 1,hn=>by
  have hg:s.toArray[n]! = s[n]!:=by rw [getElem!_pos s.toArray n (by simp;omega),getElem!_pos s n (by omega)];simp
  have ht:s.take (n + 1)=s.take n ++ [s[n]!]:=by rw [List.take_succ_eq_append_getElem (by omega),getElem!_pos s n (by omega)]
  have ih:=mem_cmpUp s hok hs x n (by omega)
  have hin:∀ i,i<s.length→s[i]!∈s:=fun i hi=>by rw [getElem!_pos s i hi];exact List.getElem_mem hi
  rw [cmpUp_succ,ht,List.filter_append,List.mem_append,ih,hg]
  have hmemT:∀ y,y∈s.take n→∃ i,i<n∧s[i]! = y:=fun y hy=>by
   obtain ⟨i,hi,e⟩:=List.mem_iff_getElem.1 hy
   rw [List.length_take] at hi
   exact ⟨i,by omega,by rw [getElem!_pos s i (by omega),← e,List.getElem_take]⟩
  by_cases hk:keyB x s[n]! = true
  ·have hkeep:kp eqO s.toArray n=true↔(s.take n).filter (keyB x)=[]:=by
    constructor
    ·intro h
     rw [List.filter_eq_nil_iff]
     intro y hy hky
     obtain ⟨i,hi,rfl⟩:=hmemT y hy
     unfold kp at h
     have hgn:s.toArray[n - 1]! = s[n - 1]!:=by rw [getElem!_pos s.toArray (n - 1) (by simp;omega),getElem!_pos s (n - 1) (by omega)];simp
     rw [hg,hgn] at h
     have hne:n≠0:=by omega
     have hsame:sameK s[n]! s[n - 1]!:=by
      unfold keyB at hk hky
      rw [decide_eq_true_iff] at hk hky
      by_cases e:n - 1=i
      ·rw [e];exact ⟨hk.1.trans hky.1.symm,hk.2.trans hky.2.symm⟩
      ·have s1:=hs i (n - 1) (by omega) (by omega)
       have s2:=hs (n - 1) n (by omega) (by omega)
       unfold ltT cmpK at s1 s2
       rw [decide_eq_false_iff_not] at s1 s2
       rw [hky.1,hky.2] at s1
       rw [hk.1,hk.2] at s2
       have f1:x.f0=(s[n - 1]!).f0:=by
        by_cases a:(s[n - 1]!).f0<x.f0
        ·exact absurd (Or.inl a) s1
        ·by_cases b:x.f0<(s[n - 1]!).f0
         ·exact absurd (Or.inl b) s2
         ·omega
       have c1:¬ compareBytes (s[n - 1]!).f1.data.toList x.f1.data.toList<0:=fun h=>s1 (Or.inr ⟨f1.symm,h⟩)
       have c2:¬ compareBytes x.f1.data.toList (s[n - 1]!).f1.data.toList<0:=fun h=>s2 (Or.inr ⟨f1,h⟩)
       have c3:=cB_anti x.f1.data.toList (s[n - 1]!).f1.data.toList
       exact ⟨hk.1.trans f1,hk.2.trans (cB_zero _ _ (by omega))⟩
     have:=(eq_ok (hok _ (hin n (by omega))) (hok _ (hin (n - 1) (by omega)))).2 hsame
     rw [this] at h
     simp [hne] at h
    ·intro h
     unfold kp
     by_cases hne:n=0
     ·simp [hne]
     ·have hgn:s.toArray[n - 1]! = s[n - 1]!:=by rw [getElem!_pos s.toArray (n - 1) (by simp;omega),getElem!_pos s (n - 1) (by omega)];simp
      rw [hg,hgn]
      have hno:¬ eqO s[n]! s[n - 1]! = true:=fun e=>by
       have h2:=(eq_ok (hok _ (hin n (by omega))) (hok _ (hin (n - 1) (by omega)))).1 e
       have:s[n - 1]!∈(s.take n).filter (keyB x):=by
        rw [List.mem_filter]
        constructor
        ·rw [getElem!_pos s (n - 1) (by omega)]
         have:(s.take n)[n - 1]'(by rw [List.length_take];omega)=s[n - 1]:=List.getElem_take
         rw [← this]
         exact List.getElem_mem _
        ·unfold keyB at hk ⊢
         rw [decide_eq_true_iff] at hk ⊢
         exact ⟨h2.1.symm.trans hk.1,h2.2.symm.trans hk.2⟩
       rw [h] at this
       simp at this
      rw [Bool.eq_false_iff.2 hno]
      simp
   have hf1:[s[n]!].filter (keyB x)=[s[n]!]:=by rw [List.filter_cons_of_pos hk];rfl
   rw [hf1]
   by_cases hkp:kp eqO s.toArray n=true
   ·have he:=hkeep.1 hkp
    rw [he,if_pos hkp]
    simp only [List.nil_append,List.head?_cons,List.head?_nil,List.mem_singleton,Option.some.injEq]
    constructor
    ·rintro (h|h)
     ·simp at h
     ·exact h.symm
    ·intro h;exact Or.inr h.symm
   ·have he:(s.take n).filter (keyB x)≠[]:=fun h=>hkp (hkeep.2 h)
    rw [if_neg hkp]
    obtain ⟨y,ys,hy⟩:=List.exists_cons_of_ne_nil he
    rw [hy]
    simp
  ·have hf1:[s[n]!].filter (keyB x)=[]:=by rw [List.filter_cons_of_neg hk];rfl
   rw [hf1,List.append_nil]
   constructor
   ·rintro (h|h)
    ·exact h
    ·split at h
     ·rw [List.mem_singleton] at h
      exact absurd (by rw [← h];exact keyB_self x) hk
     ·simp at h
   ·intro h;exact Or.inl h
theorem mem_all (l:List Wr) (hl:∀ x∈l,okT x) (x:Wr):x∈allOf l↔(l.reverse.filter (keyB x)).head? = some x:=by
 have hl':∀ x∈l.reverse,okT x:=fun x h=>hl x (List.mem_reverse.1 h)
 obtain ⟨hperm,hsort⟩:=sort_facts l.reverse hl'
 have hn:(sortOf l.reverse).length=l.reverse.length:=sortOf_len _
 have h:=mem_cmpUp (sortOf l.reverse) (fun x h=>hl' x (hperm.mem_iff.1 h)) (fun i j hij hj=>hsort i j hij (by omega)) x (sortOf l.reverse).length (Nat.le_refl _)
 rw [List.take_length,sort_stable l.reverse hl' _ (keyB_one x)] at h
 exact h
theorem ltT_of_not {x y:Wr} (h1:ltT y x=false) (h2:¬ sameK y x):ltT x y=true:=by
 unfold ltT cmpK at *
 rw [decide_eq_false_iff_not] at h1
 rw [decide_eq_true_iff]
 by_cases a:x.f0<y.f0
 ·exact Or.inl a
 ·by_cases b:y.f0<x.f0
  ·exact absurd (Or.inl b) h1
  ·refine Or.inr ⟨by omega,?_⟩
   have c1:¬ compareBytes y.f1.data.toList x.f1.data.toList<0:=fun h=>h1 (Or.inr ⟨by omega,h⟩)
   have c3:=cB_anti x.f1.data.toList y.f1.data.toList
   by_cases c:compareBytes x.f1.data.toList y.f1.data.toList=0
   ·exact absurd ⟨by omega,(cB_zero _ _ c).symm⟩ h2
   ·omega
theorem ltT_lt_of_le {x y z:Wr} (h1:ltT y x=false) (h2:ltT y z=true):ltT x z=true:=by
 by_cases h:ltT x z=true
 ·exact h
 ·have:=ltT_swo.ntrans y x z h1 (Bool.eq_false_iff.2 h)
  rw [h2] at this
  cases this
theorem all_sorted (l:List Wr) (hl:∀ x∈l,okT x):(allOf l).Pairwise (fun x y=>ltT x y=true):=by
 have hl':∀ x∈l.reverse,okT x:=fun x h=>hl x (List.mem_reverse.1 h)
 obtain ⟨hperm,hsort⟩:=sort_facts l.reverse hl'
 have hn:(sortOf l.reverse).length=l.reverse.length:=sortOf_len _
 unfold allOf runsOf
 generalize sortOf l.reverse=s at hperm hsort hn
 have hok:∀ x∈s,okT x:=fun x h=>hl' x (hperm.mem_iff.1 h)
 have hin:∀ i,i<s.length→s[i]!∈s:=fun i hi=>by rw [getElem!_pos s i hi];exact List.getElem_mem hi
 have hget:∀ j,j<s.length→s.toArray[j]! = s[j]!:=fun j hj=>by rw [getElem!_pos s.toArray j (by simpa using hj),getElem!_pos s j hj];simp
 suffices ∀ n,n≤s.length→(cmpUp eqO s.toArray n).Pairwise (fun x y=>ltT x y=true)∧∀ x∈cmpUp eqO s.toArray n,∃ i,i<n∧s[i]! = x from (this s.length (Nat.le_refl _)).1
 intro n
 induction n with
 | zero=>intro _;simp [cmpUp]
 | succ n ih=>
  intro hn1
  obtain ⟨h1,h2⟩:=ih (by omega)
  rw [cmpUp_succ,hget n (by omega)]
  refine ⟨?_,fun x hx=>?_⟩
  ·rw [List.pairwise_append]
   refine ⟨h1,by split <;> simp,fun x hx y hy=>?_⟩
   split at hy
   ·rename_i hk
    rw [List.mem_singleton] at hy
    subst hy
    obtain ⟨i,hi,rfl⟩:=h2 x hx
    unfold kp at hk
    rw [hget n (by omega),hget (n - 1) (by omega)] at hk
    have hne:n≠0:=by omega
    have hns:¬ sameK s[n]! s[n - 1]!:=fun e=>by
     rw [(eq_ok (hok _ (hin n (by omega))) (hok _ (hin (n - 1) (by omega)))).2 e] at hk
     simp [hne] at hk
    have hlt:=ltT_of_not (hsort (n - 1) n (by omega) (by omega)) hns
    by_cases e:i=n - 1
    ·rw [e];exact hlt
    ·exact ltT_lt_of_le (hsort i (n - 1) (by omega) (by omega)) hlt
   ·simp at hy
  ·rw [List.mem_append] at hx
   rcases hx with hx|hx
   ·obtain ⟨i,hi,e⟩:=h2 x hx
    exact ⟨i,by omega,e⟩
   ·split at hx
    ·rw [List.mem_singleton] at hx
     exact ⟨n,by omega,hx.symm⟩
    ·simp at hx
theorem sorted_one:∀ (a b:List Wr),a.Pairwise (fun x y=>ltT x y=true)→b.Pairwise (fun x y=>ltT x y=true)→(∀ x,x∈a↔x∈b)→a=b
 | [],[],_,_,_=>rfl
 | [],y :: b,_,_,h=>by simpa using (h y).2 (by simp)
 | x :: a,[],_,_,h=>by simpa using (h x).1 (by simp)
 | x :: a,y :: b,ha,hb,h=>by
  rw [List.pairwise_cons] at ha hb
  have hxy:x=y:=by
   rcases List.mem_cons.1 ((h x).1 (by simp)) with e|e
   ·exact e
   ·rcases List.mem_cons.1 ((h y).2 (by simp)) with e2|e2
    ·exact e2.symm
    ·have h1:=hb.1 x e
     have h2:=ha.1 y e2
     have:=ltT_swo.trans _ _ _ h1 h2
     rw [ltT_swo.irrefl] at this
     cases this
  subst hxy
  rw [sorted_one a b ha.2 hb.2 (fun z=>?_)]
  constructor
  ·intro hz
   rcases List.mem_cons.1 ((h z).1 (List.mem_cons_of_mem _ hz)) with e|e
   ·have:=ha.1 z hz
    rw [e,ltT_swo.irrefl] at this
    cases this
   ·exact e
  ·intro hz
   rcases List.mem_cons.1 ((h z).2 (List.mem_cons_of_mem _ hz)) with e|e
   ·have:=hb.1 z hz
    rw [e,ltT_swo.irrefl] at this
    cases this
   ·exact e
end Go.Proofs.YtbaecdcfefmcgaaGreat.HAll
set_option linter.unusedSimpArgs false
set_option linter.unusedVariables false
set_option linter.unusedSectionVars false
namespace Go.Proofs.YtbaecdcfefmcgaaGreat.HMerge
open Go.RowKit Go.Proofs.YtbaecdcfefmcgaaGreat.PVrd Go.Proofs.YtbaecdcfefmcgaaGreat.HNum Go.Proofs.YtbaecdcfefmcgaaGreat.HKeyV Go.Proofs.YtbaecdcfefmcgaaGreatW.PrintWords Go.Proofs.YtbaecdcfefmcgaaGreatW.PrintLast
open Go.Proofs.YtbaecdcfefmcgaaGreat.HTable (Rw rdr_at less_trans_l)
open Go.Proofs.YtbaecdcfefmcgaaGreat.HAll (Wr allOf)
def rless (a b:Rw):Prop:=Op.bytesLess a.f0.toList b.f0.toList=true
theorem less_irrefl (a:List UInt8):Op.bytesLess a a=false:=by rw [less_cmp,cB_refl];rfl
theorem less_tri {a b:List UInt8} (h1:Op.bytesLess a b=false) (h2:a≠b):Op.bytesLess b a=true:=by
 rw [less_cmp] at h1 ⊢
 have h3:=of_decide_eq_false h1
 have h4:=cB_anti a b
 have h5:Lib.compareBytes a b≠0:=fun h=>h2 (cB_zero _ _ h)
 exact decide_eq_true (by omega)
theorem less_ne {a b:List UInt8} (h:Op.bytesLess a b=true):a≠b:=fun e=>by rw [e,less_irrefl] at h;cases h
theorem cmp_less (a k:ByteArray):FF.cmp a k<0↔Op.bytesLess a.toList k.toList=true:=by
 unfold FF.cmp
 rw [ByteArray.toList_eq,ByteArray.toList_eq,less_cmp,decide_eq_true_eq]
theorem cmp_same (a k:ByteArray):(FF.cmp a k == 0)=(a.toList == k.toList):=by
 unfold FF.cmp
 rw [ByteArray.toList_eq,ByteArray.toList_eq]
 by_cases h:a.data.toList=k.data.toList
 ·rw [h,cB_refl];simp
 ·have:Lib.compareBytes a.data.toList k.data.toList≠0:=fun h2=>h (cB_zero _ _ h2)
  rw [beq_eq_false_iff_ne.2 this,beq_eq_false_iff_ne.2 h]
structure Parts (l:List Rw) (k:ByteArray) (p:Nat):Prop where
 le:p≤l.length
 low:∀ m (h:m<l.length),m<p→Op.bytesLess (l[m]).f0.toList k.toList=true
 high:∀ m (h:m<l.length),p≤m→Op.bytesLess (l[m]).f0.toList k.toList=false
section
variable (l:List Rw) (k:ByteArray)
theorem bs_parts (hs:l.Pairwise rless):∀ f i j,i≤j→j≤l.length→j - i≤f→(∀ m (h:m<l.length),m<i→Op.bytesLess (l[m]).f0.toList k.toList=true)→(∀ m (h:m<l.length),j≤m→Op.bytesLess (l[m]).f0.toList k.toList=false) →
 Parts l k (FF.bs l k f i j):=by
 intro f
 induction f with
 | zero=>
  intro i j hij hj hf hlo hhi
  obtain rfl:i=j:=by omega
  exact ⟨hj,hlo,hhi⟩
 | succ f ih=>
  intro i j hij hj hf hlo hhi
  unfold FF.bs
  by_cases h:i<j
  ·rw [if_pos h]
   have hm:(i + j) / 2<l.length:=by omega
   rw [rdr_at l _ hm]
   by_cases hc:FF.cmp (l[(i + j) / 2]).f0 k<0
   ·rw [if_pos hc]
    have hc2:=(cmp_less _ _).1 hc
    refine ih ((i + j) / 2 + 1) j (by omega) hj (by omega) (fun m h1 h2=>?_) hhi
    rcases Nat.lt_or_ge m ((i + j) / 2) with h3|h3
    ·exact less_trans_l _ _ _ (List.pairwise_iff_getElem.1 hs m ((i + j) / 2) h1 hm h3) hc2
    ·obtain rfl:m=(i + j) / 2:=by omega
     exact hc2
   ·rw [if_neg hc]
    have hc2:Op.bytesLess (l[(i + j) / 2]).f0.toList k.toList=false:=by
     cases hb:Op.bytesLess (l[(i + j) / 2]).f0.toList k.toList with
     | true=>exact absurd ((cmp_less _ _).2 hb) hc
     | false=>rfl
    refine ih i ((i + j) / 2) (by omega) (by omega) (by omega) hlo (fun m h1 h2=>?_)
    rcases Nat.eq_or_lt_of_le h2 with h3|h3
    ·subst h3;exact hc2
    ·cases hb:Op.bytesLess (l[m]).f0.toList k.toList with
     | false=>rfl
     | true=>
      have:=less_trans_l _ _ _ (List.pairwise_iff_getElem.1 hs ((i + j) / 2) m hm h1 h3) hb
      rw [hc2] at this
      cases this
  ·rw [if_neg h]
   obtain rfl:i=j:=by omega
   exact ⟨hj,hlo,hhi⟩
theorem seek_ev (hs:l.Pairwise rless):∃ (A B C:List Rw) (f:Bool),l=A ++ (B ++ C)∧FF.f l k=some ((A.length:Int),f) ∧
 (∀ r∈A,Op.bytesLess r.f0.toList k.toList=true)∧(∀ r∈C,Op.bytesLess k.toList r.f0.toList=true)∧((B=[]∧f=false)∨(∃ r,B=[r]∧r.f0.toList=k.toList∧f=true)):=by
 have hp:=bs_parts l k hs l.length 0 l.length (Nat.zero_le _) (Nat.le_refl _) (by omega) (fun m h h2=>absurd h2 (by omega)) (fun m h h2=>absurd h2 (by omega))
 unfold FF.f
 generalize FF.bs l k l.length 0 l.length=p at hp ⊢
 have hA:(l.take p).length=p:=by rw [List.length_take];have:=hp.le;omega
 have hlow:∀ r∈l.take p,Op.bytesLess r.f0.toList k.toList=true:=fun r hr=>by
  obtain ⟨i,hi,rfl⟩:=List.mem_iff_getElem.1 hr
  rw [List.getElem_take]
  exact hp.low i (by rw [List.length_take] at hi;omega) (by omega)
 by_cases h:p<l.length
 ·by_cases hk:(l[p]).f0.toList=k.toList
  ·refine ⟨l.take p,[l[p]],l.drop (p + 1),true,?_,?_,hlow,fun r hr=>?_,.inr ⟨_,rfl,hk,rfl⟩⟩
   ·rw [List.singleton_append,← List.drop_eq_getElem_cons h,List.take_append_drop]
   ·rw [hA,decide_eq_true h,rdr_at l p h,cmp_same,hk]
    simp
   ·obtain ⟨i,hi,rfl⟩:=List.mem_iff_getElem.1 hr
    rw [List.length_drop] at hi
    rw [List.getElem_drop,← hk]
    exact List.pairwise_iff_getElem.1 hs p (p + 1 + i) h (by omega) (by omega)
  ·refine ⟨l.take p,[],l.drop p,false,?_,?_,hlow,fun r hr=>?_,.inl ⟨rfl,rfl⟩⟩
   ·rw [List.nil_append,List.take_append_drop]
   ·rw [hA,decide_eq_true h,rdr_at l p h,cmp_same,beq_eq_false_iff_ne.2 hk]
    simp
   ·obtain ⟨i,hi,rfl⟩:=List.mem_iff_getElem.1 hr
    rw [List.length_drop] at hi
    rw [List.getElem_drop]
    have h1:=less_tri (hp.high p h (Nat.le_refl _)) hk
    rcases Nat.eq_zero_or_pos i with h0|h0
    ·subst h0;exact h1
    ·exact less_trans_l _ _ _ h1 (List.pairwise_iff_getElem.1 hs p (p + i) h (by omega) (by omega))
 ·refine ⟨l.take p,[],[],false,?_,?_,hlow,fun r hr=>(by cases hr),.inl ⟨rfl,rfl⟩⟩
  ·rw [List.nil_append,List.append_nil,List.take_of_length_le (by omega)]
  ·rw [hA,decide_eq_false h]
   simp
end
structure Made (l:List Rw) (w:Wr) (m:List Rw):Prop where
 asc:m.Pairwise rless
 len:m.length≤l.length + 1
 mem:∀ r,r∈m↔(r∈l∧r.f0.toList≠w.f1.toList)∨(w.f3=false∧r=⟨w.f1,w.f2⟩)
theorem asc_join {A D C:List Rw} (hA:A.Pairwise rless) (hC:C.Pairwise rless) (hD:D.Pairwise rless) (h1:∀ a∈A,∀ d∈D,rless a d) (h2:∀ d∈D,∀ c∈C,rless d c) (h3:∀ a∈A,∀ c∈C,rless a c):(A ++ (D ++ C)).Pairwise rless:=by
 rw [List.pairwise_append,List.pairwise_append]
 exact ⟨hA,⟨hD,hC,h2⟩,fun a ha b hb=>(List.mem_append.1 hb).elim (h1 a ha b) (h3 a ha b)⟩
section
variable (t:Int) (ws:List Wr)
theorem one_ev (j:Nat) (hj:j<ws.length) (hw:ws.length≤12) (ht:(ws[j]).f0=t) (l:List Rw) (hs:l.Pairwise rless) (hl:l.length≤1000000) :
 ∃ m,Made l ws[j] m∧∀ r,Ev (fun k=>Fo.l0 k m t ws (ws.length:Int) ((j + 1:Nat):Int)) r→Ev (fun k=>Fo.l0 k l t ws (ws.length:Int) (j:Int)) r:=by
 have rdw:rd_T72 ws (j:Int)=ws[j]:=by simp [rd_T72,hj]
 obtain ⟨A,B,C,f,e,hf,hA,hC,hB⟩:=seek_ev l (ws[j]).f1 hs
 generalize ws[j]=w at *
 have hsl:=hs
 rw [e] at hsl
 have hAs:A.Pairwise rless:=(List.pairwise_append.1 hsl).1
 have hCs:C.Pairwise rless:=(List.pairwise_append.1 (List.pairwise_append.1 hsl).2.1).2.1
 have hAC:∀ a∈A,∀ c∈C,rless a c:=fun a ha c hc=>(List.pairwise_append.1 hsl).2.2 a ha c (List.mem_append_right _ hc)
 have hlen:l.length=A.length + (B.length + C.length):=by rw [e,List.length_append,List.length_append]
 have hne:∀ r,(r∈l∧r.f0.toList≠w.f1.toList)↔r∈A∨r∈C:=fun r=>by
  rw [e,List.mem_append,List.mem_append]
  constructor
  ·rintro ⟨h|h|h,h2⟩
   ·exact .inl h
   ·rcases hB with ⟨rfl,_⟩|⟨b,rfl,hb,_⟩
    ·cases h
    ·rw [List.mem_singleton] at h;subst h;exact absurd hb h2
   ·exact .inr h
  ·rintro (h|h)
   ·exact ⟨.inl h,less_ne (hA r h)⟩
   ·exact ⟨.inr (.inr h),(less_ne (hC r h)).symm⟩
 have del:∀ (P:Nat→List Rw→Int→Option (List Rw)) (r:List Rw),Ev (fun k=>P k (A ++ C) (A.length:Int)) r →
  Ev (fun k=>if f=true then ((Gy.f l (A.length:Int) (wrap64 ((A.length:Int) + 1))).bind fun t227=>P k t227 (A.length:Int)) else P k l (A.length:Int)) r:=fun P r h=>by
  rcases hB with ⟨rfl,rfl⟩|⟨b,rfl,hb,rfl⟩
  ·refine Ev.if_neg (by simp) ?_
   rw [e,List.nil_append]
   exact h
  ·refine Ev.if_pos rfl (Ev.bind0 (a:=A ++ C) ?_ h)
   rw [List.length_singleton] at hlen
   unfold Gy.f
   rw [if_pos ⟨by omega,by omega,by unfold wrap64;omega⟩]
   congr 1
   rw [e,Int.toNat_natCast,List.eraseIdx_append_of_length_le (Nat.le_refl _),Nat.sub_self]
   rfl
 cases hg:w.f3 with
 | true=>
  refine ⟨A ++ C,⟨?_,?_,fun r=>?_⟩,fun r hr=>?_⟩
  ·exact asc_join (D:=[]) hAs hCs List.Pairwise.nil (fun _ _ d hd=>by cases hd) (fun d hd=>by cases hd) hAC
  ·rw [List.length_append];omega
  ·rw [List.mem_append,hne]
   simp [hg]
  ·refine Ev.step (fun k=>by simp only [Fo.l0];rfl) (Ev.if_pos (by omega) (Ev.if_pos (by omega) (Ev.if_pos (by omega) ?_)))
   rw [rdw]
   refine Ev.if_pos ht (Ev.bind0 hf (del (fun k x p=>Fo.j1 k x t p ws (ws.length:Int) (j:Int) w.f0 w.f1 w.f2 w.f3) r ?_))
   refine Ev.step (fun k=>by simp only [Fo.j1];rfl) (Ev.if_pos hg ?_)
   rw [wrap_succ j (by omega)]
   exact hr
 | false=>
  refine ⟨A ++ ([⟨w.f1,w.f2⟩] ++ C),⟨?_,?_,fun r=>?_⟩,fun r hr=>?_⟩
  ·refine asc_join hAs hCs (List.pairwise_singleton _ _) (fun a ha d hd=>?_) (fun d hd c hc=>?_) hAC
   ·rw [List.mem_singleton] at hd;subst hd;exact hA a ha
   ·rw [List.mem_singleton] at hd;subst hd;exact hC c hc
  ·rw [List.length_append,List.length_append,List.length_singleton];omega
  ·rw [List.mem_append,List.mem_append,List.mem_singleton,hne]
   simp only [hg,true_and]
   constructor
   ·rintro (h|h|h)
    ·exact .inl (.inl h)
    ·exact .inr h
    ·exact .inl (.inr h)
   ·rintro ((h|h)|h)
    ·exact .inl h
    ·exact .inr (.inr h)
    ·exact .inr (.inl h)
  ·refine Ev.step (fun k=>by simp only [Fo.l0];rfl) (Ev.if_pos (by omega) (Ev.if_pos (by omega) (Ev.if_pos (by omega) ?_)))
   rw [rdw]
   refine Ev.if_pos ht (Ev.bind0 hf (del (fun k x p=>Fo.j1 k x t p ws (ws.length:Int) (j:Int) w.f0 w.f1 w.f2 w.f3) r ?_))
   refine Ev.step (fun k=>by simp only [Fo.j1];rfl) (Ev.if_neg (by simp [hg]) ?_)
   refine Ev.bind0 (a:=A ++ ([⟨w.f1,w.f2⟩] ++ C)) ?_ ?_
   ·unfold F3.f
    rw [if_pos ⟨rfl,by omega,by rw [List.length_append];omega,by rw [List.length_append];omega⟩,Int.toNat_natCast,List.take_left' rfl,List.drop_left' rfl,List.append_assoc]
   ·rw [wrap_succ j (by omega)]
    exact hr
structure Merged (l:List Rw) (us:List Wr) (m:List Rw):Prop where
 asc:m.Pairwise rless
 len:m.length≤l.length + us.length
 mem:∀ r,r∈m↔(r∈l∧∀ w∈us,w.f0=t→w.f1.toList≠r.f0.toList)∨∃ w∈us,w.f0=t∧w.f3=false∧r=⟨w.f1,w.f2⟩
theorem from_gen (F:Nat→List Rw→Nat→Option (List Rw)) (stop:∀ l,Ev (fun k=>F k l ws.length) l) (skip:∀ j (hj:j<ws.length) l r,(ws[j]).f0≠t→Ev (fun k=>F k l (j + 1)) r→Ev (fun k=>F k l j) r)
 (one:∀ j (hj:j<ws.length) l,(ws[j]).f0=t→l.Pairwise rless→l.length≤1000000→∃ m,Made l ws[j] m∧∀ r,Ev (fun k=>F k m (j + 1)) r→Ev (fun k=>F k l j) r)
 (hd:ws.Pairwise (fun x y=>x.f0=y.f0→x.f1.toList≠y.f1.toList)) (d:Nat):∀ (j:Nat) (l:List Rw),j + d=ws.length→l.Pairwise rless→l.length + d≤1000000 →
 ∃ m,Ev (fun k=>F k l j) m∧Merged t l (ws.drop j) m:=by
 induction d with
 | zero=>
  intro j l hj hs hl
  obtain rfl:j=ws.length:=by omega
  refine ⟨l,stop l,hs,by omega,fun r=>?_⟩
  rw [List.drop_eq_nil_of_le (by omega)]
  simp
 | succ d ih=>
  intro j l hj hs hl
  have hlt:j<ws.length:=by omega
  have hdr:ws.drop j=ws[j] :: ws.drop (j + 1):=List.drop_eq_getElem_cons hlt
  have hapart:∀ w∈ws.drop (j + 1),(ws[j]).f0=w.f0→(ws[j]).f1.toList≠w.f1.toList:=fun w h=>by
   have h2:=hd.sublist (List.drop_sublist j ws)
   rw [hdr,List.pairwise_cons] at h2
   exact h2.1 w h
  by_cases ht:(ws[j]).f0=t
  ·obtain ⟨l1,hm,hstep⟩:=one j hlt l ht hs (by omega)
   obtain ⟨m,he,hM⟩:=ih (j + 1) l1 (by omega) hm.asc (by have:=hm.len;omega)
   refine ⟨m,hstep m he,hM.asc,?_,fun r=>?_⟩
   ·have h1:=hM.len
    have h2:=hm.len
    rw [hdr,List.length_cons]
    omega
   ·rw [hM.mem,hm.mem,hdr]
    constructor
    ·rintro (⟨⟨h1,h2⟩|⟨h1,rfl⟩,h3⟩|⟨w,h1,h2⟩)
     ·refine .inl ⟨h1,fun w hw2 hwt=>?_⟩
      rcases List.mem_cons.1 hw2 with rfl|h4
      ·exact h2.symm
      ·exact h3 w h4 hwt
     ·exact .inr ⟨_,List.mem_cons_self ..,ht,h1,rfl⟩
     ·exact .inr ⟨w,List.mem_cons_of_mem _ h1,h2⟩
    ·rintro (⟨h1,h2⟩|⟨w,h1,h2,h3,rfl⟩)
     ·exact .inl ⟨.inl ⟨h1,(h2 _ (List.mem_cons_self ..) ht).symm⟩,fun w hw2=>h2 w (List.mem_cons_of_mem _ hw2)⟩
     ·rcases List.mem_cons.1 h1 with rfl|h4
      ·exact .inl ⟨.inr ⟨h3,rfl⟩,fun w hw2 hwt=>(hapart w hw2 (ht.trans hwt.symm)).symm⟩
      ·exact .inr ⟨w,h4,h2,h3,rfl⟩
  ·obtain ⟨m,he,hM⟩:=ih (j + 1) l (by omega) hs (by omega)
   refine ⟨m,?_,hM.asc,?_,fun r=>?_⟩
   ·exact skip j hlt l m ht he
   ·have h1:=hM.len
    rw [hdr,List.length_cons]
    omega
   ·rw [hM.mem,hdr]
    constructor
    ·rintro (⟨h1,h2⟩|⟨w,h1,h2⟩)
     ·refine .inl ⟨h1,fun w hw2 hwt=>?_⟩
      rcases List.mem_cons.1 hw2 with rfl|h4
      ·exact absurd hwt ht
      ·exact h2 w h4 hwt
     ·exact .inr ⟨w,List.mem_cons_of_mem _ h1,h2⟩
    ·rintro (⟨h1,h2⟩|⟨w,h1,h2,h3⟩)
     ·exact .inl ⟨h1,fun w hw2=>h2 w (List.mem_cons_of_mem _ hw2)⟩
     ·rcases List.mem_cons.1 h1 with rfl|h4
      ·exact absurd h2 ht
      ·exact .inr ⟨w,h4,h2,h3⟩
theorem from_ev (hw:ws.length≤12) (hd:ws.Pairwise (fun x y=>x.f0=y.f0→x.f1.toList≠y.f1.toList)) (l:List Rw) (hs:l.Pairwise rless) (hl:l.length + ws.length≤1000000) :
 ∃ m,Ev (fun k=>Fo.l0 k l t ws (ws.length:Int) 0) m∧Merged t l ws m:=by
 have h:=from_gen t ws (fun k l j=>Fo.l0 k l t ws (ws.length:Int) (j:Int)) (fun l=>Ev.step (fun k=>by simp only [Fo.l0];rfl) (Ev.if_neg (by omega) (Ev.now _)))
  (fun j hj l r ht he=>Ev.step (fun k=>by simp only [Fo.l0];rfl) (Ev.if_pos (by omega) (Ev.if_pos (by omega) (Ev.if_pos (by omega) (by
   rw [show rd_T72 ws (j:Int)=ws[j] by simp [rd_T72,hj],wrap_succ j (by omega)]
   exact Ev.if_neg ht he)))))
  (fun j hj l ht hs hl=>one_ev t ws j hj hw ht l hs hl) hd ws.length 0 l (by omega) hs hl
 exact h
end
open Go.Proofs.YtbaecdcfefmcgaaGreat.HAll (okT ltT all_sorted all_len all_mem mem_all keyB cmpK) in
theorem all_apart (l:List Wr) (hl:∀ x∈l,okT x):(allOf l).Pairwise (fun x y=>x.f0=y.f0→x.f1.toList≠y.f1.toList):=by
 refine (all_sorted l hl).imp (fun {x y} h e e2=>?_)
 unfold ltT cmpK at h
 rw [decide_eq_true_iff] at h
 rcases h with h|⟨_,h⟩
 ·omega
 ·rw [ByteArray.toList_eq,ByteArray.toList_eq] at e2
  rw [e2,cB_refl] at h
  omega
open Go.Proofs.YtbaecdcfefmcgaaGreat.HAll (okT all_len) in
theorem Merge_ev (t:Int) (l:List Rw) (hs:l.Pairwise rless) (hl:l.length≤900000) (ws:List Wr) (ms:List Int) (hw:ws.length≤12) (hok:∀ x∈ws,okT x) :
 ∃ m,Ev (fun k=>Fo.f k l ws ms t) m∧Merged t l (allOf ws) m:=by
 have h12:=all_len ws
 obtain ⟨m,he,hM⟩:=from_ev t (allOf ws) (by omega) (all_apart ws hok) l hs (by omega)
 refine ⟨m,?_,hM⟩
 unfold Fo.f
 refine Ev.bind0 (a:=l) (by unfold Gw.f;rw [if_pos (by omega)]) (Ev.bind0 (a:=allOf ws) (by unfold Gx.f;rw [if_pos hw]) he)
theorem rless_trans {a b c:Rw} (h1:rless a b) (h2:rless b c):rless a c:=less_trans_l _ _ _ h1 h2
theorem asc_one:∀ (a b:List Rw),a.Pairwise rless→b.Pairwise rless→(∀ x,x∈a↔x∈b)→a=b
 | [],[],_,_,_=>rfl
 | [],y :: b,_,_,h=>by simpa using (h y).2 (by simp)
 | x :: a,[],_,_,h=>by simpa using (h x).1 (by simp)
 | x :: a,y :: b,ha,hb,h=>by
  have irr:∀ z:Rw,¬ rless z z:=fun z h=>by unfold rless at h;rw [less_irrefl] at h;cases h
  rw [List.pairwise_cons] at ha hb
  have hxy:x=y:=by
   rcases List.mem_cons.1 ((h x).1 (by simp)) with e|e
   ·exact e
   ·rcases List.mem_cons.1 ((h y).2 (by simp)) with e2|e2
    ·exact e2.symm
    ·exact absurd (rless_trans (hb.1 x e) (ha.1 y e2)) (irr y)
  subst hxy
  rw [asc_one a b ha.2 hb.2 (fun z=>?_)]
  constructor
  ·intro hz
   rcases List.mem_cons.1 ((h z).1 (List.mem_cons_of_mem _ hz)) with e|e
   ·exact absurd (by have:=ha.1 z hz;rw [e] at this;exact this) (irr x)
   ·exact e
  ·intro hz
   rcases List.mem_cons.1 ((h z).2 (List.mem_cons_of_mem _ hz)) with e|e
   ·exact absurd (by have:=hb.1 z hz;rw [e] at this;exact this) (irr x)
   ·exact e
theorem Merged.one {t:Int} {l:List Rw} {us:List Wr} {m m':List Rw} (h:Merged t l us m) (h':Merged t l us m'):m=m':=asc_one m m' h.asc h'.asc (fun r=>(h.mem r).trans (h'.mem r).symm)
end Go.Proofs.YtbaecdcfefmcgaaGreat.HMerge
set_option linter.unusedSimpArgs false
set_option linter.unusedVariables false
namespace Go.Proofs.YtbaecdcfefmcgaaGreat.HPend
open Go.RowKit Go.Proofs.YtbaecdcfefmcgaaGreat.PVrd Go.Proofs.YtbaecdcfefmcgaaGreat.HNum Go.Proofs.YtbaecdcfefmcgaaGreatW.PrintWords Go.Proofs.YtbaecdcfefmcgaaGreatW.PrintLast
abbrev Wr:=S72
theorem rdw_at (l:List Wr) (j:Nat) (h:j<l.length):rd_T72 l (j:Int)=l[j]:=by simp [rd_T72,h]
theorem rdn_at (l:List Int) (j:Nat) (h:j<l.length):rd l (j:Int)=l[j]:=by simp [rd,h]
def keyOK (s:ByteArray):Bool:=decide (1≤s.size∧s.size≤12)
theorem toList_nil (s:ByteArray):s.toList=([]:List UInt8)↔s.size=0:=by
 rw [ByteArray.toList_eq]
 have:s.data.toList.length=s.size:=Array.length_toList
 constructor
 ·intro h
  rw [h] at this
  simpa using this.symm
 ·intro h
  exact List.eq_nil_of_length_eq_zero (by omega)
theorem key_Is_eq (s:ByteArray):F4.f s=some (keyOK s):=by
 unfold F4.f keyOK
 by_cases h:s.toList=([]:List UInt8)
 ·have:=(toList_nil s).1 h
  rw [if_pos h];simp [this]
 ·have:=mt (toList_nil s).2 h
  rw [if_neg h]
  congr 1
  rw [decide_eq_decide]
  omega
theorem key_Fits_eq (s:ByteArray):F8.f s=some (decide (s.size≤20)):=by
 unfold F8.f
 congr 1
 rw [decide_eq_decide]
 omega
theorem ref_Key_eq (s:ByteArray):F9.f s=some (keyOK s):=by
 unfold F9.f Gc.f keyOK
 by_cases h:(s.size:Int)≥1
 ·rw [if_pos h]
  simp only [Option.bind_some,Option.some.injEq,decide_eq_decide]
  omega
 ·rw [if_neg h]
  simp only [Option.bind_some,Option.some.injEq]
  symm
  simp only [decide_eq_false_iff_not]
  omega
def wOK (w:Wr):Bool:=decide (0≤w.f0) && (decide (w.f0<3) && (keyOK w.f1 && (decide (w.f2.size≤20) && (!w.f3 || (w.f2.toList == [])))))
theorem Is_eq (w:Wr):Gq.f w.f0 w.f1 w.f2 w.f3=some (wOK w):=by
 unfold Gq.f Gi.f wOK
 rw [key_Is_eq,key_Fits_eq]
 simp only [ge_iff_le]
 by_cases h1:0≤w.f0 <;> by_cases h2:w.f0<3 <;> by_cases h3:keyOK w.f1=true <;> by_cases h4:w.f2.size≤20 <;> by_cases h5:w.f3=true <;> simp [h1,h2,h3,h4,h5]
theorem ref_Write_eq (w:Wr):Gp.f w.f0 w.f1 w.f2 w.f3=some (wOK w):=by
 unfold Gp.f FJ.f Gd.f wOK
 rw [ref_Key_eq]
 simp only [ge_iff_le]
 have e:((w.f2.size:Int)≤20)↔w.f2.size≤20:=by omega
 have e2:w.f0≤2↔w.f0<3:=by omega
 by_cases h1:0≤w.f0 <;> by_cases h2:w.f0<3 <;> by_cases h3:keyOK w.f1=true <;> by_cases h4:w.f2.size≤20 <;> by_cases h5:w.f3=true <;> simp [h1,h2,h3,h4,h5,e,e2]
def MarksFrom (n:Nat) (m:List Int) (j:Nat):Prop:=∀ i (h:i<m.length),j≤i→0≤m[i]∧m[i]≤n∧(0<i→∀ h2:i - 1<m.length,m[i - 1]≤m[i])
structure May (l:List Wr) (m:List Int):Prop where
 few:l.length≤12
 marks:m.length≤6
 each:∀ w∈l,wOK w=true
 lie:MarksFrom l.length m 0
theorem MarksFrom.step {n:Nat} {m:List Int} {j:Nat} (hj:j<m.length):MarksFrom n m j↔(0≤m[j]∧m[j]≤n∧(0<j→∀ h2:j - 1<m.length,m[j - 1]≤m[j]))∧MarksFrom n m (j + 1):=by
 constructor
 ·intro h
  exact ⟨h j hj (Nat.le_refl _),fun i hi hji=>h i hi (by omega)⟩
 ·rintro ⟨h1,h2⟩ i hi hji
  rcases Nat.eq_or_lt_of_le hji with rfl|h3
  ·exact h1
  ·exact h2 i hi h3
theorem MarksFrom.last {n:Nat} {m:List Int} {j:Nat} (hj:m.length≤j):MarksFrom n m j:=fun i hi hji=>by omega
theorem marks_from (l:List Wr) (m:List Int) (hm:m.length≤6) (b:Bool) (d:Nat):∀ j,j + d=m.length→(b=true↔MarksFrom l.length m j)→Ev (fun k=>Fh.l0 k m (m.length:Int) (j:Int) l m) b:=by
 induction d with
 | zero=>
  intro j hj hb
  have:b=true:=hb.2 (MarksFrom.last (by omega))
  subst this
  exact Ev.step (fun k=>by simp only [Fh.l0];rfl) (Ev.if_neg (by omega) (Ev.now true))
 | succ d ih=>
  intro j hj hb
  have hlt:j<m.length:=by omega
  rw [MarksFrom.step hlt] at hb
  have jn:∀ c:Bool,(c=true→b=false)→(c=false→(b=true↔MarksFrom l.length m (j + 1)))→Ev (fun k=>Fh.j2 k m (m.length:Int) (j:Int) c l m) b:=fun c h1 h2=>by
   refine Ev.step (fun k=>by simp only [Fh.j2];rfl) ?_
   cases c with
   | true=>rw [h1 rfl];exact Ev.if_pos rfl (Ev.now false)
   | false=>
    refine Ev.if_neg (by simp) ?_
    rw [wrap_succ j (by omega)]
    exact ih (j + 1) (by omega) (h2 rfl)
  refine Ev.step (fun k=>by simp only [Fh.l0];rfl) (Ev.if_pos (by omega) (Ev.if_pos (by omega) (Ev.if_pos (by omega) ?_)))
  rw [rdn_at m j hlt]
  refine Ev.iff (fun h1=>?_) (fun h1=>Ev.iff (fun h2=>?_) (fun h2=>Ev.iff (fun h0=>?_) (fun h0=>?_)))
  ·exact jn true (fun _=>by rw [← Bool.not_eq_true,hb];rintro ⟨⟨h,_⟩,_⟩;omega) (fun h=>by cases h)
  ·exact jn true (fun _=>by rw [← Bool.not_eq_true,hb];rintro ⟨⟨_,h,_⟩,_⟩;omega) (fun h=>by cases h)
  ·have h0':0<j:=by omega
   have hlt1:j - 1<m.length:=by omega
   rw [wrap_pred j h0' (by omega),rdn_at m (j - 1) hlt1]
   refine Ev.if_pos (by omega) (Ev.if_pos (by omega) (jn _ (fun hc=>?_) (fun hc=>?_)))
   ·rw [decide_eq_true_eq] at hc
    rw [← Bool.not_eq_true,hb];rintro ⟨⟨_,_,h⟩,_⟩;have:=h h0' hlt1;omega
   ·rw [decide_eq_false_iff_not] at hc
    rw [hb]
    exact ⟨fun h=>h.2,fun h=>⟨⟨by omega,by omega,fun _ _=>by omega⟩,h⟩⟩
  ·refine jn false (fun h=>by cases h) (fun _=>?_)
   rw [hb]
   exact ⟨fun h=>h.2,fun h=>⟨⟨by omega,by omega,fun h3 _=>by omega⟩,h⟩⟩
theorem any_bad (l:List Wr):F6.f l=some (!(l.all wOK)):=by
 unfold F6.f
 congr 1
 rw [List.all_eq_not_any_not,Bool.not_not]
 congr 1
 funext w
 have h:=F6.tot w
 unfold Gr.f at h
 rw [Is_eq] at h
 simpa using h.symm
open Classical in
theorem May_ev (l:List Wr) (m:List Int):Ev (fun k=>Fh.f k l m) (decide (May l m)):=by
 unfold Fh.f
 have hno:∀ (h:¬ May l m),Ev (fun k=>Fh.j0 k true l m) (decide (May l m)):=fun h=>by
  rw [decide_eq_false h]
  exact Ev.step (fun k=>by simp only [Fh.j0];rfl) (Ev.if_pos (by simp) (Ev.now false))
 refine Ev.iff (fun h=>hno (fun h2=>by have:=h2.few;omega)) (fun h1=>Ev.iff (fun h=>hno (fun h2=>by have:=h2.marks;omega)) (fun h2=>?_))
 rw [any_bad]
 refine Ev.bind0 rfl ?_
 by_cases hall:l.all wOK=true
 ·rw [hall]
  refine Ev.step (fun k=>by simp only [Fh.j0];rfl) (Ev.if_neg (by simp) ?_)
  refine marks_from l m (by omega) _ m.length 0 (by omega) ?_
  rw [decide_eq_true_eq]
  exact ⟨fun h=>h.lie,fun h=>⟨by omega,by omega,fun w hw=>List.all_eq_true.1 hall w hw,h⟩⟩
 ·have hall':l.all wOK=false:=by simpa using hall
  rw [hall']
  exact hno (fun h=>hall (List.all_eq_true.2 h.each))
theorem ref_marks (l:List Wr) (m:List Int) (hm:m.length≤6) (b:Bool) (d:Nat):∀ j,j + d=m.length→(b=true↔MarksFrom l.length m j)→Ev (fun k=>Fd.l1 k (j:Int) l m) b:=by
 induction d with
 | zero=>
  intro j hj hb
  have:b=true:=hb.2 (MarksFrom.last (by omega))
  subst this
  exact Ev.step (fun k=>by simp only [Fd.l1];rfl) (Ev.if_neg (by omega) (Ev.now true))
 | succ d ih=>
  intro j hj hb
  have hlt:j<m.length:=by omega
  rw [MarksFrom.step hlt] at hb
  have jn:∀ c:Bool,(c=true→b=false)→(c=false→(b=true↔MarksFrom l.length m (j + 1)))→Ev (fun k=>Fd.j3 k (j:Int) c l m) b:=fun c h1 h2=>by
   refine Ev.step (fun k=>by simp only [Fd.j3];rfl) ?_
   cases c with
   | true=>rw [h1 rfl];exact Ev.if_pos rfl (Ev.now false)
   | false=>
    refine Ev.if_neg (by simp) ?_
    rw [wrap_succ j (by omega)]
    exact ih (j + 1) (by omega) (h2 rfl)
  refine Ev.step (fun k=>by simp only [Fd.l1];rfl) (Ev.if_pos (by omega) (Ev.if_pos (by omega) ?_))
  rw [rdn_at m j hlt]
  have hnum:FJ.f m[j] (l.length:Int)=some (decide (0≤m[j]∧m[j]≤(l.length:Int))):=by
   unfold FJ.f
   by_cases h:m[j]≥0
   ·rw [if_pos h];simp [h]
   ·rw [if_neg h];congr 1;symm;rw [decide_eq_false_iff_not];omega
  refine Ev.bind0 hnum ?_
  refine Ev.iff (fun h1=>?_) (fun h1=>?_)
  ·rw [decide_eq_true_eq] at h1
   refine Ev.iff (fun h0=>?_) (fun h0=>?_)
   ·have h0':0<j:=by omega
    have hlt1:j - 1<m.length:=by omega
    rw [wrap_pred j h0' (by omega),rdn_at m (j - 1) hlt1]
    refine Ev.if_pos (by omega) (Ev.if_pos (by omega) (jn _ (fun hc=>?_) (fun hc=>?_)))
    ·rw [decide_eq_true_eq] at hc
     rw [← Bool.not_eq_true,hb];rintro ⟨⟨_,_,h⟩,_⟩;have:=h h0' hlt1;omega
    ·rw [decide_eq_false_iff_not] at hc
     rw [hb]
     exact ⟨fun h=>h.2,fun h=>⟨⟨by omega,by omega,fun _ _=>by omega⟩,h⟩⟩
   ·refine jn false (fun h=>by cases h) (fun _=>?_)
    rw [hb]
    exact ⟨fun h=>h.2,fun h=>⟨⟨by omega,by omega,fun h3 _=>by omega⟩,h⟩⟩
  ·rw [decide_eq_true_eq] at h1
   exact jn true (fun _=>by rw [← Bool.not_eq_true,hb];rintro ⟨⟨h2,h3,_⟩,_⟩;exact h1 ⟨h2,h3⟩) (fun h=>by cases h)
theorem ref_writes (l:List Wr) (m:List Int) (hl:l.length≤12) (hm:m.length≤6) (b:Bool) (d:Nat):∀ j,j + d=l.length→(b=true↔(∀ i (h:i<l.length),j≤i→wOK l[i]=true)∧MarksFrom l.length m 0)→Ev (fun k=>Fd.l0 k (j:Int) l m) b:=by
 induction d with
 | zero=>
  intro j hj hb
  refine Ev.step (fun k=>by simp only [Fd.l0];rfl) (Ev.if_neg (by omega) ?_)
  refine ref_marks l m hm b m.length 0 (by omega) ?_
  rw [hb]
  exact ⟨fun h=>h.2,fun h=>⟨fun i hi hji=>by omega,h⟩⟩
 | succ d ih=>
  intro j hj hb
  have hlt:j<l.length:=by omega
  refine Ev.step (fun k=>by simp only [Fd.l0];rfl) (Ev.if_pos (by omega) (Ev.if_pos (by omega) ?_))
  rw [rdw_at l j hlt,wrap_succ j (by omega)]
  refine Ev.bind0 (ref_Write_eq _) (Ev.iff (fun h1=>ih (j + 1) (by omega) ?_) (fun h1=>?_))
  ·rw [hb]
   constructor
   ·exact fun h=>⟨fun i hi hji=>h.1 i hi (by omega),h.2⟩
   ·exact fun h=>⟨fun i hi hji=>by
     rcases Nat.eq_or_lt_of_le hji with rfl|h3
     ·exact h1
     ·exact h.1 i hi h3,h.2⟩
  ·have:b=false:=by rw [← Bool.not_eq_true,hb];rintro ⟨h,_⟩;exact h1 (h j hlt (Nat.le_refl _))
   subst this
   exact Ev.now false
open Classical in
theorem ref_ev (l:List Wr) (m:List Int):Ev (fun k=>Fd.f k l m) (decide (May l m)):=by
 unfold Fd.f
 have hno:∀ (h:¬ May l m),Ev (fun k=>Fd.j0 k true l m) (decide (May l m)):=fun h=>by
  rw [decide_eq_false h]
  exact Ev.step (fun k=>by simp only [Fd.j0];rfl) (Ev.if_pos (by simp) (Ev.now false))
 refine Ev.iff (fun h=>hno (fun h2=>by have:=h2.few;omega)) (fun h1=>?_)
 by_cases h2:(m.length:Int) > 6
 ·rw [decide_eq_true h2]
  exact hno (fun h2=>by have:=h2.marks;omega)
 ·rw [decide_eq_false h2]
  refine Ev.step (fun k=>by simp only [Fd.j0];rfl) (Ev.if_neg (by simp) ?_)
  refine ref_writes l m (by omega) (by omega) _ l.length 0 (by omega) ?_
  rw [decide_eq_true_eq]
  constructor
  ·exact fun h=>⟨fun i hi _=>h.each _ (List.getElem_mem hi),h.lie⟩
  ·exact fun h=>⟨by omega,by omega,fun w hw=>by obtain ⟨i,hi,rfl⟩:=List.mem_iff_getElem.1 hw;exact h.1 i hi (Nat.zero_le _),h.2⟩
open Classical in
theorem EqWrites_same (l:List Wr) (hl:l.length≤4611686018427387904):Ev (fun k=>FN.f k l l) true:=by
 have key:∀ d j:Nat,j + d=l.length→Ev (fun k=>FN.l0 k l l (j:Int)) true:=by
  intro d
  induction d with
  | zero=>
   intro j hj
   exact Ev.step (fun k=>by simp only [FN.l0];rfl) (Ev.if_neg (by omega) (Ev.now true))
  | succ d ih=>
   intro j hj
   refine Ev.step (fun k=>by simp only [FN.l0];rfl) ?_
   rw [wrap_succ j (by omega)]
   exact Ev.if_pos (by omega) (Ev.if_pos (by omega) (Ev.if_pos (by omega) (Ev.if_neg (by simp) (ih (j + 1) (by omega)))))
 unfold FN.f
 exact Ev.if_pos rfl (key l.length 0 (by omega))
theorem EqNumbers_same (l:List Int) (hl:l.length≤4611686018427387904):Ev (fun k=>FS.f k l l) true:=by
 have key:∀ d j:Nat,j + d=l.length→Ev (fun k=>FS.l0 k l l (j:Int)) true:=by
  intro d
  induction d with
  | zero=>
   intro j hj
   exact Ev.step (fun k=>by simp only [FS.l0];rfl) (Ev.if_neg (by omega) (Ev.now true))
  | succ d ih=>
   intro j hj
   refine Ev.step (fun k=>by simp only [FS.l0];rfl) ?_
   rw [wrap_succ j (by omega)]
   exact Ev.if_pos (by omega) (Ev.if_pos (by omega) (Ev.if_pos (by omega) (Ev.if_pos trivial (ih (j + 1) (by omega)))))
 unfold FS.f
 exact Ev.if_pos rfl (key l.length 0 (by omega))
theorem EqPend_same (l:List Wr) (m:List Int) (hl:l.length≤4611686018427387904) (hm:m.length≤4611686018427387904):Ev (fun k=>Gf.f k l m l m) true:=by
 unfold Gf.f
 exact Ev.bind (EqWrites_same l hl) (Ev.if_pos rfl (Ev.bind (EqNumbers_same m hm) (Ev.now true)))
theorem weight_ends (l:List Wr) (hl:l.length≤4611686018427387904):∃ r,Ev (fun k=>Fp.f k l) r:=by
 have stop:∀ (n:Int) (j:Int),Ev (fun k=>Fp.j1 k l n j false) n:=fun n j=>Ev.step (fun k=>by simp only [Fp.j1];rfl) (Ev.if_neg (by simp) (Ev.now n))
 have key:∀ d j:Nat,j + d=l.length→∀ n:Int,∃ r,Ev (fun k=>Fp.l0 k l n (j:Int)) r:=by
  intro d
  induction d with
  | zero=>
   intro j hj n
   exact ⟨n,Ev.step (fun k=>by simp only [Fp.l0];rfl) (Ev.if_neg (by omega) (stop n _))⟩
  | succ d ih=>
   intro j hj n
   by_cases hn:n<1048576
   ·obtain ⟨r,hr⟩:=ih (j + 1) (by omega) (wrap64 (n + (wrap64 (Int.tdiv (wrap64 ((((rd_T72 l (j:Int)).f1).size:Int) + (((rd_T72 l (j:Int)).f2).size:Int))) 8))))
    refine ⟨r,Ev.step (fun k=>by simp only [Fp.l0];rfl) (Ev.if_pos (by omega) ?_)⟩
    rw [decide_eq_true hn]
    refine Ev.step (fun k=>by simp only [Fp.j1];rfl) ?_
    rw [wrap_succ j (by omega)]
    exact Ev.if_pos trivial (Ev.if_pos (by omega) (Ev.if_pos (by omega) hr))
   ·refine ⟨n,Ev.step (fun k=>by simp only [Fp.l0];rfl) (Ev.if_pos (by omega) ?_)⟩
    rw [decide_eq_false hn]
    exact stop n _
 exact key l.length 0 (by omega) _
end Go.Proofs.YtbaecdcfefmcgaaGreat.HPend
set_option linter.unusedSimpArgs false
set_option linter.unusedVariables false
set_option linter.unusedSectionVars false
namespace Go.Proofs.YtbaecdcfefmcgaaGreat.HPend
open Go.RowKit Go.Proofs.YtbaecdcfefmcgaaGreat.PVrd Go.Proofs.YtbaecdcfefmcgaaGreat.HNum Go.Proofs.YtbaecdcfefmcgaaGreatW.PrintWords Go.Proofs.YtbaecdcfefmcgaaGreatW.PrintLast
open Go.Proofs.YtbaecdcfefmcgaaGreat.HAll (ltT cmpK okT sameK keyB allOf cB_cons cB_refl cB_zero ltT_swo ltT_of_not keyB_self keyB_congr mem_all all_sorted sorted_one)
open Go.Lib (compareBytes)
theorem less_cmp:∀ a b:List UInt8,Op.bytesLess a b=decide (compareBytes a b<0)
 | [],[]=>by simp [Op.bytesLess,compareBytes]
 | [],b :: ys=>by simp [Op.bytesLess,compareBytes]
 | a :: xs,[]=>by simp [Op.bytesLess,compareBytes]
 | a :: xs,b :: ys=>by
  rw [cB_cons]
  simp only [Op.bytesLess]
  rw [less_cmp xs ys]
  by_cases h1:a.toNat<b.toNat
  ·have:a<b:=h1
   rw [if_pos h1]
   simp [this]
  ·have h1':¬ a<b:=h1
   by_cases h2:b.toNat<a.toNat
   ·have:a≠b:=fun e=>by subst e;omega
    rw [if_neg h1,if_pos h2]
    simp [h1',this]
   ·have:a=b:=by apply UInt8.toNat_inj.1;omega
    rw [if_neg h1,if_neg h2]
    simp [h1',this]
theorem ltT_eq (x y:Wr):ltT x y=decide (x.f0<y.f0∨(x.f0=y.f0∧Op.bytesLess x.f1.toList y.f1.toList=true)):=by
 unfold ltT cmpK
 simp only [ByteArray.toList_eq,less_cmp,decide_eq_true_eq]
def hitB (t:Int) (k:ByteArray) (x:Wr):Bool:=(x.f0 == t) && (x.f1.toList == k.toList)
def lastOut:Option Wr→(Int×ByteArray×ByteArray×Bool×Bool)
 | some x=>(x.f0,x.f1,x.f2,x.f3,true)
 | none=>(0,⟨#[]⟩,⟨#[]⟩,false,false)
theorem Last_from (l:List Wr) (m:List Int) (hl:l.length≤12) (t:Int) (key:ByteArray):∀ j,j≤l.length→Ev (fun k=>Ft.l0 k t key ((j:Int) - 1) l m) (lastOut ((l.take j).reverse.find? (hitB t key))):=by
 intro j
 induction j with
 | zero=>
  intro _
  refine Ev.step (fun k=>by simp only [Ft.l0];rfl) (Ev.if_neg (by omega) (Ev.const ?_))
  simp [lastOut]
 | succ j ih=>
  intro hj
  have hlt:j<l.length:=by omega
  have e:((j + 1:Nat):Int) - 1=(j:Int):=by omega
  have et:(l.take (j + 1)).reverse=l[j] :: (l.take j).reverse:=by
   rw [List.take_succ_eq_append_getElem hlt];simp
  rw [e,et,List.find?_cons]
  have hw:wrap64 ((j:Int) - 1)=(j:Int) - 1:=by unfold wrap64;omega
  have go1:∀ (b:Bool) (r),(b=false→Ev (fun k=>Ft.l0 k t key ((j:Int) - 1) l m) r)→(b=true→r=lastOut (some l[j]))→Ev (fun k=>Ft.j1 k t key (j:Int) b l m) r:=fun b r h1 h2=>by
   refine Ev.step (fun k=>by simp only [Ft.j1];rfl) ?_
   cases b with
   | true=>
    refine Ev.if_pos rfl ?_
    refine Ev.if_pos (by omega) ?_
    refine Ev.if_pos (by omega) (Ev.const ?_)
    rw [rdw_at l j hlt,h2 rfl]
    rfl
   | false=>
    refine Ev.if_neg (by simp) ?_
    rw [hw]
    exact h1 rfl
  refine Ev.step (fun k=>by simp only [Ft.l0];rfl) ?_
  refine Ev.if_pos (by omega) ?_
  refine Ev.if_pos (by omega) ?_
  refine Ev.if_pos (by omega) ?_
  rw [rdw_at l j hlt]
  refine Ev.iff (fun h0=>?_) (fun h0=>?_)
  ·have hh:hitB t key l[j]=(l[j].f1.toList == key.toList):=by simp [hitB,h0]
   rw [hh]
   cases hb:(l[j].f1.toList == key.toList) with
   | true=>exact go1 _ _ (fun h=>by cases h) (fun _=>rfl)
   | false=>exact go1 _ _ (fun _=>ih (by omega)) (fun h=>by cases h)
  ·have hh:hitB t key l[j]=false:=by simp [hitB,h0]
   rw [hh]
   exact go1 _ _ (fun _=>ih (by omega)) (fun h=>by cases h)
theorem Last_ev (l:List Wr) (m:List Int) (hl:l.length≤12) (t:Int) (key:ByteArray):Ev (fun k=>Ft.f k l m t key) (lastOut (l.reverse.find? (hitB t key))):=by
 have h:=Last_from l m hl t key l.length (Nat.le_refl _)
 rw [List.take_length] at h
 unfold Ft.f
 have hw:wrap64 ((l.length:Int) - 1)=(l.length:Int) - 1:=by unfold wrap64;omega
 rw [hw]
 exact h
theorem hitB_key (x:Wr):hitB x.f0 x.f1=keyB x:=by
 funext y
 unfold hitB keyB
 rw [ByteArray.toList_eq,ByteArray.toList_eq]
 generalize y.f1.data.toList=a
 generalize x.f1.data.toList=b
 by_cases h1:y.f0=x.f0 <;> by_cases h2:a=b <;> simp [h1,h2]
theorem last_head (l:List Wr) (x:Wr):l.reverse.find? (hitB x.f0 x.f1)=(l.reverse.filter (keyB x)).head?:=by
 rw [hitB_key,← List.head?_filter]
theorem last_some (l:List Wr) (x:Wr) (hx:x∈l):∃ w,l.reverse.find? (hitB x.f0 x.f1)=some w∧keyB x w=true∧w∈l:=by
 cases h:l.reverse.find? (hitB x.f0 x.f1) with
 | none=>
  rw [List.find?_eq_none] at h
  have:=h x (List.mem_reverse.2 hx)
  rw [hitB_key,keyB_self] at this
  simp at this
 | some w=>
  refine ⟨w,rfl,?_,?_⟩
  ·have:=List.find?_some h
   rwa [hitB_key] at this
  ·exact List.mem_reverse.1 (List.mem_of_find?_eq_some h)
theorem CopyWrites_ev (l:List Wr) (hl:l.length≤100):Ev (fun k=>FA.f k l) l:=by
 have key:∀ d j:Nat,j + d=l.length→Ev (fun k=>FA.l0 k l (l.take j) (j:Int)) l:=by
  intro d
  induction d with
  | zero=>
   intro j hj
   refine Ev.step (fun k=>by simp only [FA.l0];rfl) (Ev.if_neg (by omega) (Ev.const ?_))
   rw [List.take_of_length_le (by omega)]
  | succ d ih=>
   intro j hj
   have hlt:j<l.length:=by omega
   refine Ev.step (fun k=>by simp only [FA.l0];rfl) ?_
   refine Ev.if_pos (by omega) ?_
   refine Ev.if_pos (by omega) ?_
   refine Ev.if_pos (by rw [List.length_take];omega) ?_
   rw [wrap_succ j (by omega),rdw_at l j hlt,show l.take j ++ [(⟨l[j].f0,l[j].f1,l[j].f2,l[j].f3⟩:Wr)]=l.take (j + 1) from (List.take_succ_eq_append_getElem hlt).symm]
   exact ih (j + 1) (by omega)
 unfold FA.f
 exact key l.length 0 (by omega)
section
variable (l:List Wr) (m:List Int)
structure Seen (i:Nat) (s:List Wr):Prop where
 len:s.length≤i
 sorted:s.Pairwise (fun x y=>ltT x y=true)
 mem:∀ x,x∈s↔∃ y∈l.take i,l.reverse.find? (hitB y.f0 y.f1)=some x
theorem Seen.next {i:Nat} {s:List Wr} (hs:Seen l i s) (hi:i<l.length) (w:Wr) (hw:l.reverse.find? (hitB (l[i]).f0 (l[i]).f1)=some w) (hin:w∈s):Seen l (i + 1) s:=by
 refine ⟨by have:=hs.len;omega,hs.sorted,fun x=>?_⟩
 rw [hs.mem,List.take_succ_eq_append_getElem hi]
 constructor
 ·rintro ⟨y,hy,e⟩;exact ⟨y,List.mem_append_left _ hy,e⟩
 ·rintro ⟨y,hy,e⟩
  rcases List.mem_append.1 hy with h|h
  ·exact ⟨y,h,e⟩
  ·obtain rfl:=List.mem_singleton.1 h
   rw [hw] at e
   cases e
   exact (hs.mem w).1 hin
theorem Seen.put {i:Nat} {s:List Wr} (hs:Seen l i s) (hi:i<l.length) (w:Wr) (hw:l.reverse.find? (hitB (l[i]).f0 (l[i]).f1)=some w) (j:Nat) (hj:j≤s.length) (hlow:∀ i' (h:i'<s.length),i'<j→ltT s[i'] w=true) (hat:∀ h:j<s.length,ltT w s[j]=true) :
 Seen l (i + 1) (s.take j ++ [w] ++ s.drop j):=by
 refine ⟨?_,?_,fun x=>?_⟩
 ·have:=hs.len
  simp only [List.length_append,List.length_take,List.length_drop,List.length_singleton]
  omega
 ·have h1:(s.take j).Pairwise (fun x y=>ltT x y=true):=hs.sorted.sublist (List.take_sublist _ _)
  have h2:(s.drop j).Pairwise (fun x y=>ltT x y=true):=hs.sorted.sublist (List.drop_sublist _ _)
  have hlo:∀ x∈s.take j,ltT x w=true:=fun x hx=>by
   obtain ⟨a,ha,rfl⟩:=List.mem_iff_getElem.1 hx
   rw [List.length_take] at ha
   rw [List.getElem_take]
   exact hlow a (by omega) (by omega)
  have hhi:∀ x∈s.drop j,ltT w x=true:=fun x hx=>by
   obtain ⟨a,ha,rfl⟩:=List.mem_iff_getElem.1 hx
   rw [List.length_drop] at ha
   rw [List.getElem_drop]
   have hjl:j<s.length:=by omega
   rcases Nat.eq_zero_or_pos a with rfl|h0
   ·exact hat hjl
   ·exact ltT_swo.trans _ _ _ (hat hjl) (List.pairwise_iff_getElem.1 hs.sorted j (j + a) hjl (by omega) (by omega))
  rw [List.append_assoc,List.pairwise_append]
  refine ⟨h1,?_,fun x hx y hy=>?_⟩
  ·rw [List.singleton_append,List.pairwise_cons]
   exact ⟨hhi,h2⟩
  ·rcases List.mem_append.1 hy with h|h
   ·obtain rfl:=List.mem_singleton.1 h
    exact hlo x hx
   ·exact ltT_swo.trans _ _ _ (hlo x hx) (hhi y h)
 ·have e:x∈s.take j ++ [w] ++ s.drop j↔x∈s∨x=w:=by
   rw [List.mem_append,List.mem_append,List.mem_singleton]
   constructor
   ·rintro ((h|h)|h)
    ·exact .inl (List.mem_of_mem_take h)
    ·exact .inr h
    ·exact .inl (List.mem_of_mem_drop h)
   ·rintro (h|h)
    ·rw [← List.take_append_drop j s,List.mem_append] at h
     rcases h with h|h
     ·exact .inl (.inl h)
     ·exact .inr h
    ·exact .inl (.inr h)
  rw [e,hs.mem,List.take_succ_eq_append_getElem hi]
  constructor
  ·rintro (⟨y,hy,e⟩|rfl)
   ·exact ⟨y,List.mem_append_left _ hy,e⟩
   ·exact ⟨l[i],List.mem_append_right _ (List.mem_singleton.2 rfl),hw⟩
  ·rintro ⟨y,hy,e⟩
   rcases List.mem_append.1 hy with h|h
   ·exact .inl ⟨y,h,e⟩
   ·obtain rfl:=List.mem_singleton.1 h
    rw [hw] at e
    exact .inr (Option.some.inj e).symm
theorem Seen.all {s:List Wr} (hok:∀ x∈l,okT x) (hs:Seen l l.length s):s=allOf l:=by
 refine sorted_one s (allOf l) hs.sorted (all_sorted l hok) (fun x=>?_)
 rw [hs.mem,mem_all l hok,List.take_length]
 constructor
 ·rintro ⟨y,hy,e⟩
  have hk:=List.find?_some e
  rw [hitB_key] at hk
  rw [last_head] at e
  rw [← keyB_congr hk]
  exact e
 ·intro h
  have hx:x∈l:=List.mem_reverse.1 ((List.mem_filter.1 (List.mem_of_mem_head? (by rw [h];rfl))).1)
  exact ⟨x,hx,by rw [last_head];exact h⟩
theorem Sum_from (hl:l.length≤12) (hok:∀ x∈l,okT x) (d:Nat):∀ (i:Nat) (s:List Wr),i + d=l.length→Seen l i s→Ev (fun k=>Fb.l0 k s (i:Int) l m) (allOf l):=by
 induction d with
 | zero=>
  intro i s hi hs
  obtain rfl:i=l.length:=by omega
  exact Ev.step (fun k=>by simp only [Fb.l0];rfl) (Ev.if_neg (by omega) (Ev.const (by rw [Seen.all l hok hs])))
 | succ d ih=>
  intro i s hi hs
  have hlt:i<l.length:=by omega
  have hsl:=hs.len
  obtain ⟨w,hw,hkw,hwl⟩:=last_some l l[i] (List.getElem_mem hlt)
  have hL:=Last_ev l m hl (l[i]).f0 (l[i]).f1
  rw [hw] at hL
  refine Ev.step (fun k=>by simp only [Fb.l0];rfl) ?_
  refine Ev.if_pos (by omega) ?_
  refine Ev.if_pos (by omega) ?_
  rw [rdw_at l i hlt]
  refine Ev.bind hL ?_
  have hj3:∀ j (hj:j≤s.length),(∀ i' (h:i'<s.length),i'<j→ltT s[i'] w=true)→(∀ h:j<s.length,ltT s[j] w=false)→∀ b:Bool,(b=true↔∃ h:j<s.length,(s[j]).f0=w.f0∧(s[j]).f1.toList=w.f1.toList) →
   Ev (fun k=>Fb.j3 k s (i:Int) (j:Int) b l m w.f0 w.f1 w.f2 w.f3) (allOf l):=fun j hj hlow hat b hb=>by
   refine Ev.step (fun k=>by simp only [Fb.j3];rfl) ?_
   rw [wrap_succ i (by omega)]
   cases b with
   | true=>
    refine Ev.if_pos rfl (ih (i + 1) s (by omega) ?_)
    obtain ⟨h,e0,e1⟩:=hb.1 rfl
    refine Seen.next l hs hlt w hw ?_
    obtain ⟨y,hy,ey⟩:=(hs.mem s[j]).1 (List.getElem_mem h)
    have hk:=List.find?_some ey
    rw [hitB_key] at hk
    rw [last_head,keyB_congr hk] at ey
    have hk2:keyB s[j] w=true:=by
     unfold keyB
     rw [ByteArray.toList_eq,ByteArray.toList_eq] at e1
     simp [e0,e1]
    rw [last_head,keyB_congr hkw,← keyB_congr hk2,ey] at hw
    rw [← Option.some.inj hw]
    exact List.getElem_mem h
   | false=>
    refine Ev.if_neg (by simp) ?_
    refine Ev.if_pos (by omega) ?_
    refine Ev.if_pos (by omega) ?_
    refine Ev.bind (CopyWrites_ev _ (by rw [List.length_take];omega)) ?_
    rw [Int.toNat_natCast]
    refine Ev.bind0 rfl ?_
    refine Ev.if_pos (by simp only [List.length_take,List.length_singleton];omega) ?_
    refine Ev.bind0 rfl ?_
    refine Ev.bind0 rfl ?_
    refine Ev.if_pos (by simp only [List.length_append,List.length_take,List.length_drop,List.length_singleton];omega) ?_
    refine ih (i + 1) _ (by omega) (Seen.put l hs hlt w hw j hj hlow (fun h=>ltT_of_not (hat h) (fun hk=>?_)))
    have:false=true:=hb.2 ⟨h,hk.1,by rw [ByteArray.toList_eq,ByteArray.toList_eq];exact hk.2⟩
    cases this
  have stop:∀ j (hj:j≤s.length),(∀ i' (h:i'<s.length),i'<j→ltT s[i'] w=true)→(∀ h:j<s.length,ltT s[j] w=false)→Ev (fun k=>Fb.j2 k s (i:Int) (j:Int) false l m w.f0 w.f1 w.f2 w.f3) (allOf l):=fun j hj hlow hat=>by
   refine Ev.step (fun k=>by simp only [Fb.j2];rfl) ?_
   refine Ev.if_neg (by simp) ?_
   refine Ev.iff (fun h=>?_) (fun h=>hj3 j hj hlow hat false ⟨fun h2=>by (cases h2),fun ⟨h2,_⟩=>absurd h2 (by omega)⟩)
   have hjl:j<s.length:=by omega
   refine Ev.if_pos (by omega) ?_
   rw [rdw_at s j hjl]
   refine Ev.iff (fun h0=>hj3 j hj hlow hat _ ⟨fun h2=>⟨hjl,h0,by simpa using h2⟩,fun ⟨_,_,h2⟩=>by simpa using h2⟩) (fun h0=>hj3 j hj hlow hat false ⟨fun h2=>by (cases h2),fun ⟨_,h2,_⟩=>absurd h2 h0⟩)
  have place:∀ (e j:Nat),j + e=s.length→(∀ i' (h:i'<s.length),i'<j→ltT s[i'] w=true)→Ev (fun k=>Fb.l1 k s (i:Int) (j:Int) l m w.f0 w.f1 w.f2 w.f3) (allOf l):=by
   intro e
   induction e with
   | zero=>
    intro j hj hlow
    refine Ev.step (fun k=>by simp only [Fb.l1];rfl) ?_
    exact Ev.if_neg (by omega) (stop j (by omega) hlow (fun h=>absurd h (by omega)))
   | succ e ihe=>
    intro j hj hlow
    have hjl:j<s.length:=by omega
    have on:ltT s[j] w=true→Ev (fun k=>Fb.j2 k s (i:Int) (j:Int) true l m w.f0 w.f1 w.f2 w.f3) (allOf l):=fun h=>by
     refine Ev.step (fun k=>by simp only [Fb.j2];rfl) ?_
     refine Ev.if_pos trivial ?_
     rw [wrap_succ j (by omega)]
     refine ihe (j + 1) (by omega) (fun i' h1 h2=>?_)
     rcases Nat.lt_or_ge i' j with h3|h3
     ·exact hlow i' h1 h3
     ·obtain rfl:i'=j:=by omega
      exact h
    refine Ev.step (fun k=>by simp only [Fb.l1];rfl) ?_
    refine Ev.if_pos (by omega) ?_
    refine Ev.if_pos (by omega) ?_
    rw [rdw_at s j hjl]
    refine Ev.iff (fun h0=>on (by rw [ltT_eq];simp [h0])) (fun h0=>Ev.iff (fun h1=>?_) (fun h1=>stop j (by omega) hlow (fun _=>by rw [ltT_eq];simp [h0,h1])))
    cases hb:Op.bytesLess (s[j]).f1.toList w.f1.toList with
    | true=>exact on (by rw [ltT_eq];simp [h1,hb])
    | false=>exact stop j (by omega) hlow (fun _=>by rw [ltT_eq];simp [h0,hb])
  exact place s.length 0 (by omega) (fun i' h1 h2=>absurd h2 (by omega))
theorem okT_of {w:Wr} (h:wOK w=true):okT w:=by
 unfold wOK at h
 simp only [Bool.and_eq_true,decide_eq_true_eq] at h
 exact ⟨h.1,h.2.1⟩
theorem Sum_ev (hm:May l m):Ev (fun k=>Fb.f k l m) (allOf l):=by
 unfold Fb.f
 exact Sum_from l m hm.few (fun x hx=>okT_of (hm.each x hx)) l.length 0 [] (by omega) ⟨Nat.le_refl _,List.Pairwise.nil,fun x=>by simp⟩
end
end Go.Proofs.YtbaecdcfefmcgaaGreat.HPend
set_option linter.unusedSimpArgs false
set_option linter.unusedVariables false
set_option linter.unusedSectionVars false
namespace Go.Proofs.YtbaecdcfefmcgaaGreat.HMerge
open Go.RowKit Go.Proofs.YtbaecdcfefmcgaaGreat.PVrd Go.Proofs.YtbaecdcfefmcgaaGreat.HNum Go.Proofs.YtbaecdcfefmcgaaGreatW.PrintWords Go.Proofs.YtbaecdcfefmcgaaGreatW.PrintLast
open Go.Proofs.YtbaecdcfefmcgaaGreat.HTable (Rw rdr_at)
open Go.Proofs.YtbaecdcfefmcgaaGreat.HAll (Wr allOf okT all_len)
open Go.Proofs.YtbaecdcfefmcgaaGreat.HPend (May Sum_ev okT_of)
theorem CopyRows_ev (l:List Rw) (hl:l.length≤4000000000000):Ev (fun k=>FC.f k l) l:=by
 have key:∀ d j:Nat,j + d=l.length→Ev (fun k=>FC.l0 k l (l.take j) (j:Int)) l:=by
  intro d
  induction d with
  | zero=>
   intro j hj
   refine Ev.step (fun k=>by simp only [FC.l0];rfl) (Ev.if_neg (by omega) ?_)
   rw [List.take_of_length_le (by omega)]
   exact Ev.now _
  | succ d ih=>
   intro j hj
   have hlt:j<l.length:=by omega
   refine Ev.step (fun k=>by simp only [FC.l0];rfl) (Ev.if_pos (by omega) (Ev.if_pos (by omega) (Ev.if_pos (by rw [List.length_take];omega) ?_)))
   rw [rdr_at l j hlt,wrap_succ j (by omega),show l.take j ++ [(⟨(l[j]).f0,(l[j]).f1⟩:Rw)]=l.take (j + 1) from by rw [List.take_succ_eq_append_getElem hlt]]
   exact ih (j + 1) (by omega)
 exact key l.length 0 (by omega)
theorem At_from (A B:List Rw) (k:ByteArray) (hA:∀ r∈A,r.f0.toList≠k.toList) (hB:∀ r,B.head? = some r→r.f0.toList=k.toList) (hl:(A ++ B).length≤4000000000000) (d:Nat) :
 ∀ j:Nat,j + d=A.length→Ev (fun q=>Fy.l0 q (A ++ B) k (j:Int)) (if B=[] then (-1:Int) else (A.length:Int)):=by
 have hlen:(A ++ B).length=A.length + B.length:=List.length_append
 induction d with
 | zero=>
  intro j hj
  obtain rfl:j=A.length:=by omega
  cases hBc:B with
  | nil=>
   rw [if_pos rfl]
   exact Ev.step (fun q=>by simp only [Fy.l0];rfl) (Ev.if_neg (by simp) (Ev.now _))
  | cons b B'=>
   rw [if_neg (by simp)]
   have hk:=hB b (by rw [hBc];rfl)
   rw [hBc] at hlen
   have hlt:A.length<(A ++ b :: B').length:=by rw [hlen,List.length_cons];omega
   refine Ev.step (fun q=>by simp only [Fy.l0];rfl) (Ev.if_pos (by omega) (Ev.if_pos (by omega) ?_))
   rw [rdr_at _ _ hlt,List.getElem_append_right (Nat.le_refl _)]
   simp only [Nat.sub_self,List.getElem_cons_zero]
   exact Ev.if_pos hk (Ev.now _)
 | succ d ih=>
  intro j hj
  have hltA:j<A.length:=by omega
  have hlt:j<(A ++ B).length:=by omega
  refine Ev.step (fun q=>by simp only [Fy.l0];rfl) (Ev.if_pos (by omega) (Ev.if_pos (by omega) ?_))
  rw [rdr_at _ _ hlt,List.getElem_append_left hltA,wrap_succ j (by omega)]
  exact Ev.if_neg (hA _ (List.getElem_mem hltA)) (ih (j + 1) (by omega))
theorem At_ev (A B:List Rw) (k:ByteArray) (hA:∀ r∈A,r.f0.toList≠k.toList) (hB:∀ r,B.head? = some r→r.f0.toList=k.toList) (hl:(A ++ B).length≤4000000000000) :
 Ev (fun q=>Fy.f q (A ++ B) k) (if B=[] then (-1:Int) else (A.length:Int)):=At_from A B k hA hB hl A.length 0 (by omega)
theorem Without_ev (A C:List Rw) (b:Rw) (hA:∀ r∈A,r.f0.toList≠b.f0.toList) (k:ByteArray) (hk:b.f0.toList=k.toList) (hl:(A ++ b :: C).length≤2000000):Ev (fun q=>F5.f q (A ++ b :: C) k) (A ++ C):=by
 have hlen:(A ++ b :: C).length=A.length + (C.length + 1):=by rw [List.length_append,List.length_cons]
 have hat:=At_ev A (b :: C) k (fun r hr=>by rw [← hk];exact hA r hr) (fun r hr=>by cases hr;exact hk) (by omega)
 rw [if_neg (by simp)] at hat
 unfold F5.f
 refine Ev.bind hat (Ev.if_pos (by omega) (Ev.if_pos (by omega) ?_))
 rw [Int.toNat_natCast,List.take_left' rfl,wrap_succ A.length (by omega)]
 refine Ev.bind (CopyRows_ev A (by omega)) (Ev.if_pos (by omega) (Ev.if_pos (by omega) (Ev.bind0 rfl ?_)))
 rw [Int.toNat_natCast,show (A ++ b :: C).drop (A.length + 1)=C by rw [← List.drop_drop,List.drop_left' rfl];rfl]
 exact Ev.if_pos (by omega) (Ev.now _)
theorem With_from (A C:List Rw) (k v:ByteArray) (hA:∀ r∈A,Op.bytesLess r.f0.toList k.toList=true) (hC:∀ r,C.head? = some r→Op.bytesLess r.f0.toList k.toList=false) (hl:(A ++ C).length≤2000000) (d:Nat) :
 ∀ j:Nat,j + d=A.length→Ev (fun q=>Fm.l0 q (A ++ C) (j:Int) k v) (A ++ ([⟨k,v⟩] ++ C)):=by
 have hlen:(A ++ C).length=A.length + C.length:=List.length_append
 have stop:Ev (fun q=>Fm.j1 q (A ++ C) (A.length:Int) false k v) (A ++ ([⟨k,v⟩] ++ C)):=by
  refine Ev.step (fun q=>by simp only [Fm.j1];rfl) (Ev.if_neg (by simp) (Ev.if_pos (by omega) (Ev.if_pos (by omega) ?_)))
  rw [Int.toNat_natCast,List.take_left' rfl,List.drop_left' rfl]
  refine Ev.bind (CopyRows_ev A (by omega)) (Ev.bind0 rfl (Ev.if_pos (by simp only [List.length_singleton];omega) (Ev.bind0 rfl (Ev.bind0 rfl (Ev.if_pos (by rw [List.length_append,List.length_singleton];omega) ?_)))))
  rw [List.append_assoc]
  exact Ev.now _
 induction d with
 | zero=>
  intro j hj
  obtain rfl:j=A.length:=by omega
  cases hCc:C with
  | nil=>
   rw [hCc] at stop
   exact Ev.step (fun q=>by simp only [Fm.l0];rfl) (Ev.if_neg (by simp) stop)
  | cons c C'=>
   have hk:=hC c (by rw [hCc];rfl)
   rw [hCc] at hlen stop
   have hlt:A.length<(A ++ c :: C').length:=by rw [hlen,List.length_cons];omega
   refine Ev.step (fun q=>by simp only [Fm.l0];rfl) (Ev.if_pos (by omega) (Ev.if_pos (by omega) ?_))
   rw [rdr_at _ _ hlt,List.getElem_append_right (Nat.le_refl _)]
   simp only [Nat.sub_self,List.getElem_cons_zero]
   rw [hk]
   exact stop
 | succ d ih=>
  intro j hj
  have hltA:j<A.length:=by omega
  have hlt:j<(A ++ C).length:=by omega
  refine Ev.step (fun q=>by simp only [Fm.l0];rfl) (Ev.if_pos (by omega) (Ev.if_pos (by omega) ?_))
  rw [rdr_at _ _ hlt,List.getElem_append_left hltA,hA _ (List.getElem_mem hltA)]
  refine Ev.step (fun q=>by simp only [Fm.j1];rfl) (Ev.if_pos (by first|rfl|trivial) ?_)
  rw [wrap_succ j (by omega)]
  exact ih (j + 1) (by omega)
section
variable (t:Int) (ws:List Wr)
theorem own_one (j:Nat) (hj:j<ws.length) (hw:ws.length≤12) (ht:(ws[j]).f0=t) (l:List Rw) (hs:l.Pairwise rless) (hl:l.length≤1000000) :
 ∃ m,Made l ws[j] m∧∀ r,Ev (fun k=>Fr.l0 k t ws m ((j + 1:Nat):Int)) r→Ev (fun k=>Fr.l0 k t ws l (j:Int)) r:=by
 have rdw:rd_T72 ws (j:Int)=ws[j]:=by simp [rd_T72,hj]
 obtain ⟨A,B,C,f,e,hf,hA,hC,hB⟩:=seek_ev l (ws[j]).f1 hs
 generalize ws[j]=w at *
 have hsl:=hs
 rw [e] at hsl
 have hAs:A.Pairwise rless:=(List.pairwise_append.1 hsl).1
 have hCs:C.Pairwise rless:=(List.pairwise_append.1 (List.pairwise_append.1 hsl).2.1).2.1
 have hAC:∀ a∈A,∀ c∈C,rless a c:=fun a ha c hc=>(List.pairwise_append.1 hsl).2.2 a ha c (List.mem_append_right _ hc)
 have hlen:l.length=A.length + (B.length + C.length):=by rw [e,List.length_append,List.length_append]
 have hAn:∀ r∈A,r.f0.toList≠w.f1.toList:=fun r hr=>less_ne (hA r hr)
 have hCn:∀ r∈C,r.f0.toList≠w.f1.toList:=fun r hr=>(less_ne (hC r hr)).symm
 have hne:∀ r,(r∈l∧r.f0.toList≠w.f1.toList)↔r∈A∨r∈C:=fun r=>by
  rw [e,List.mem_append,List.mem_append]
  constructor
  ·rintro ⟨h|h|h,h2⟩
   ·exact .inl h
   ·rcases hB with ⟨rfl,_⟩|⟨b,rfl,hb,_⟩
    ·cases h
    ·rw [List.mem_singleton] at h;subst h;exact absurd hb h2
   ·exact .inr h
  ·rintro (h|h)
   ·exact ⟨.inl h,hAn r h⟩
   ·exact ⟨.inr (.inr h),hCn r h⟩
 have enter:∀ r,Ev (fun k=>Fr.j1 k t ws (A ++ C) (j:Int)) r→Ev (fun k=>Fr.l0 k t ws l (j:Int)) r:=fun r hr=>by
  refine Ev.step (fun k=>by simp only [Fr.l0];rfl) (Ev.if_pos (by omega) (Ev.if_pos (by omega) ?_))
  rw [rdw]
  refine Ev.if_pos ht ?_
  rcases hB with ⟨rfl,_⟩|⟨b,rfl,hb,_⟩
  ·have e2:l=(A ++ C) ++ []:=by rw [e];simp
   have hat:=At_ev (A ++ C) [] w.f1 (fun r hr=>(List.mem_append.1 hr).elim (hAn r) (hCn r)) (fun r hr=>by cases hr) (by rw [← e2];omega)
   rw [← e2,if_pos rfl] at hat
   refine Ev.bind hat (Ev.if_neg (by omega) ?_)
   rw [e,List.nil_append]
   exact hr
  ·have e2:l=A ++ b :: C:=by rw [e];rfl
   have hat:=At_ev A (b :: C) w.f1 hAn (fun r hr=>by cases hr;exact hb) (by rw [← e2];omega)
   rw [← e2,if_neg (by simp)] at hat
   refine Ev.bind hat (Ev.if_pos (by omega) (Ev.bind (a:=A ++ C) ?_ hr))
   rw [e2]
   exact Without_ev A C b (fun r hr=>by rw [hb];exact hAn r hr) w.f1 hb (by rw [← e2];omega)
 cases hg:w.f3 with
 | true=>
  refine ⟨A ++ C,⟨?_,?_,fun r=>?_⟩,fun r hr=>enter r ?_⟩
  ·exact asc_join (D:=[]) hAs hCs List.Pairwise.nil (fun _ _ d hd=>by cases hd) (fun d hd=>by cases hd) hAC
  ·rw [List.length_append];omega
  ·rw [List.mem_append,hne]
   simp [hg]
  ·refine Ev.step (fun k=>by simp only [Fr.j1];rfl) (Ev.if_pos (by omega) (Ev.if_pos (by omega) ?_))
   rw [rdw,wrap_succ j (by omega)]
   exact Ev.if_pos hg hr
 | false=>
  refine ⟨A ++ ([⟨w.f1,w.f2⟩] ++ C),⟨?_,?_,fun r=>?_⟩,fun r hr=>enter r ?_⟩
  ·refine asc_join hAs hCs (List.pairwise_singleton _ _) (fun a ha d hd=>?_) (fun d hd c hc=>?_) hAC
   ·rw [List.mem_singleton] at hd;subst hd;exact hA a ha
   ·rw [List.mem_singleton] at hd;subst hd;exact hC c hc
  ·rw [List.length_append,List.length_append,List.length_singleton];omega
  ·rw [List.mem_append,List.mem_append,List.mem_singleton,hne]
   simp only [hg,true_and]
   constructor
   ·rintro (h|h|h)
    ·exact .inl (.inl h)
    ·exact .inr h
    ·exact .inl (.inr h)
   ·rintro ((h|h)|h)
    ·exact .inl h
    ·exact .inr (.inr h)
    ·exact .inr (.inl h)
  ·refine Ev.step (fun k=>by simp only [Fr.j1];rfl) (Ev.if_pos (by omega) (Ev.if_pos (by omega) ?_))
   rw [rdw,wrap_succ j (by omega)]
   refine Ev.if_neg (by simp [hg]) (Ev.bind (a:=A ++ ([⟨w.f1,w.f2⟩] ++ C)) ?_ hr)
   unfold Fm.f
   refine With_from A C w.f1 w.f2 hA (fun r hr=>?_) (by rw [List.length_append];omega) A.length 0 (by omega)
   cases C with
   | nil=>cases hr
   | cons c C'=>
    cases hr
    have h1:=hC r (List.mem_cons_self ..)
    cases h2:Op.bytesLess r.f0.toList w.f1.toList with
    | false=>rfl
    | true=>
     have h3:=HTable.less_trans_l _ _ _ h1 h2
     rw [less_irrefl] at h3
     cases h3
theorem own_from (hw:ws.length≤12) (hd:ws.Pairwise (fun x y=>x.f0=y.f0→x.f1.toList≠y.f1.toList)) (l:List Rw) (hs:l.Pairwise rless) (hl:l.length + ws.length≤1000000) :
 ∃ m,Ev (fun k=>Fr.l0 k t ws l 0) m∧Merged t l ws m:=by
 have h:=from_gen t ws (fun k l j=>Fr.l0 k t ws l (j:Int)) (fun l=>Ev.step (fun k=>by simp only [Fr.l0];rfl) (Ev.if_neg (by omega) (Ev.now _)))
  (fun j hj l r ht he=>Ev.step (fun k=>by simp only [Fr.l0];rfl) (Ev.if_pos (by omega) (Ev.if_pos (by omega) (by
   rw [show rd_T72 ws (j:Int)=ws[j] by simp [rd_T72,hj],wrap_succ j (by omega)]
   exact Ev.if_neg ht he))))
  (fun j hj l ht hs hl=>own_one t ws j hj hw ht l hs hl) hd ws.length 0 l (by omega) hs hl
 exact h
end
theorem Own_ev (t:Int) (l:List Rw) (hs:l.Pairwise rless) (hl:l.length≤900000) (ws:List Wr) (ms:List Int) (hm:May ws ms) (m:List Rw) (hM:Merged t l (allOf ws) m):Ev (fun k=>Fr.f k l ws ms t) m:=by
 have h12:=all_len ws
 have hf:=hm.few
 obtain ⟨m',he,hM'⟩:=own_from t (allOf ws) (by omega) (all_apart ws (fun x hx=>okT_of (hm.each x hx))) l hs (by omega)
 obtain rfl:=hM.one hM'
 unfold Fr.f
 exact Ev.bind (Sum_ev ws ms hm) (Ev.bind (CopyRows_ev l (by omega)) he)
end Go.Proofs.YtbaecdcfefmcgaaGreat.HMerge
set_option linter.unusedSimpArgs false
set_option linter.unusedVariables false
set_option linter.unusedSectionVars false
namespace Go.Proofs.YtbaecdcfefmcgaaGreat.HTable
open Go.RowKit Go.Proofs.YtbaecdcfefmcgaaGreat.PVrd Go.Proofs.YtbaecdcfefmcgaaGreat.HNum Go.Proofs.YtbaecdcfefmcgaaGreat.HChain Go.Proofs.YtbaecdcfefmcgaaGreatW.PrintWords Go.Proofs.YtbaecdcfefmcgaaGreatW.PrintLast
abbrev Tb:=S43
abbrev Pd:=S34
abbrev Wt:=S72
theorem rdb_at (l:List Tb) (j:Nat) (h:j<l.length):rd_T43 l (j:Int)=l[j]:=by simp [rd_T43,h]
theorem rdp_at (l:List Pd) (j:Nat) (h:j<l.length):rd_T34 l (j:Int)=l[j]:=by simp [rd_T34,h]
theorem rdw_at (l:List Wt) (j:Nat) (h:j<l.length):rd_T72 l (j:Int)=l[j]:=by simp [rd_T72,h]
section
variable (l:List Ch) (hl:l.length≤10000000000000) (hv:∀ c∈l,c.f1.length≤10000000000000∧c.f0.size≤140737488351232∧∀ v∈c.f1,v.f1.size≤140737488351232)
include hl hv
theorem weight_in (j:Nat) (hj:j<l.length) (p:Prop)
 (h:∀ n:Int,0≤n→n≤1000000000000000→∃ r,Ev (fun k=>Fe.l0 k n ((j + 1:Nat):Int) l) r∧n≤r∧r≤1000000000000000∧(r≤700→p)) (d:Nat) :
 ∀ (i:Nat),i + d=(l[j]).f1.length→∀ n:Int,0≤n→n≤1000000000000000→∃ r,Ev (fun k=>Fe.l1 k n (j:Int) (i:Int) l) r∧n≤r∧r≤1000000000000000∧(r≤700→p):=by
 have hb:=hv l[j] (List.getElem_mem hj)
 have stop:∀ (n:Int) (i:Int),0≤n→n≤1000000000000000→∃ r,Ev (fun k=>Fe.j3 k n (j:Int) i false l) r∧n≤r∧r≤1000000000000000∧(r≤700→p):=fun n i h0 h1=>by
  obtain ⟨r,hr,h2⟩:=h n h0 h1
  refine ⟨r,Ev.step (fun k=>by simp only [Fe.j3];rfl) (Ev.if_neg (by simp) ?_),h2⟩
  rw [wrap_succ j (by omega)]
  exact hr
 induction d with
 | zero=>
  intro i hi n h0 h1
  obtain ⟨r,hr,h2⟩:=stop n (i:Int) h0 h1
  refine ⟨r,Ev.step (fun k=>by simp only [Fe.l1];rfl) ?_,h2⟩
  rw [rdc_at l j hj]
  exact Ev.if_pos (by omega) (Ev.if_pos (by omega) (Ev.if_neg (by omega) hr))
 | succ d ih=>
  intro i hi n h0 h1
  have hlt:i<(l[j]).f1.length:=by omega
  have hs:=hb.2.2 _ (List.getElem_mem hlt)
  by_cases hn:n<1048576
  ·have e:wrap64 (n + (wrap64 ((((rd_T78 (l[j].f1) (i:Int)).f1).size:Int) / 8)))=n + ((((l[j]).f1[i]).f1.size:Int) / 8):=by
    rw [rd_at _ i hlt];unfold wrap64;omega
   obtain ⟨r,hr,h2,h3,h4⟩:=ih (i + 1) (by omega) (n + ((((l[j]).f1[i]).f1.size:Int) / 8)) (by omega) (by omega)
   refine ⟨r,Ev.step (fun k=>by simp only [Fe.l1];rfl) ?_,by omega,h3,h4⟩
   rw [rdc_at l j hj,decide_eq_true hn]
   refine Ev.if_pos (by omega) (Ev.if_pos (by omega) (Ev.if_pos (by omega) ?_))
   refine Ev.step (fun k=>by simp only [Fe.j3];rfl) (Ev.if_pos (by first|rfl|trivial) ?_)
   rw [rdc_at l j hj,wrap_succ i (by omega),e]
   exact Ev.if_pos (by omega) (Ev.if_pos (by omega) (Ev.if_pos (by omega) (Ev.if_pos (by omega) hr)))
  ·obtain ⟨r,hr,h2⟩:=stop n (i:Int) h0 h1
   refine ⟨r,Ev.step (fun k=>by simp only [Fe.l1];rfl) ?_,h2⟩
   rw [rdc_at l j hj,decide_eq_false hn]
   exact Ev.if_pos (by omega) (Ev.if_pos (by omega) (Ev.if_pos (by omega) hr))
theorem weight_from (d:Nat):∀ (j:Nat),j + d=l.length→∀ n:Int,0≤n→n≤1000000000000000 →
 ∃ r,Ev (fun k=>Fe.l0 k n (j:Int) l) r∧n≤r∧r≤1000000000000000∧(r≤700→∀ i (h:i<l.length),j≤i→(l[i]).f1.length≤700):=by
 induction d with
 | zero=>
  intro j hj n h0 h1
  refine ⟨n,Ev.step (fun k=>by simp only [Fe.l0];rfl) (Ev.if_neg (by omega) ?_),Int.le_refl _,h1,fun _ i hi hji=>by omega⟩
  refine Ev.step (fun k=>by simp only [Fe.j1];rfl) ?_
  exact Ev.if_neg (by simp) (Ev.now n)
 | succ d ih=>
  intro j hj n h0 h1
  have hlt:j<l.length:=by omega
  have hb:=hv l[j] (List.getElem_mem hlt)
  by_cases hn:n<1048576
  ·have e:wrap64 ((wrap64 (n + (((l[j]).f1).length:Int))) + (wrap64 ((((l[j]).f0).size:Int) / 8)))=n + (((l[j]).f1).length:Int) + ((((l[j]).f0).size:Int) / 8):=by unfold wrap64;omega
   obtain ⟨r,hr,h2,h3,h4⟩:=weight_in l hl hv j hlt _ (ih (j + 1) (by omega)) (l[j]).f1.length 0 (by omega) (n + (((l[j]).f1).length:Int) + ((((l[j]).f0).size:Int) / 8)) (by omega) (by omega)
   refine ⟨r,Ev.step (fun k=>by simp only [Fe.l0];rfl) (Ev.if_pos (by omega) ?_),by omega,h3,fun hr7 i hi hji=>?_⟩
   ·refine Ev.step (fun k=>by simp only [Fe.j1];rfl) ?_
    rw [rdc_at l j hlt,e]
    exact Ev.if_pos (by simpa using hn) (Ev.if_pos (by omega) (Ev.if_pos (by omega) hr))
   ·rcases Nat.eq_or_lt_of_le hji with rfl|h
    ·omega
    ·exact h4 hr7 i hi (by omega)
  ·refine ⟨n,Ev.step (fun k=>by simp only [Fe.l0];rfl) (Ev.if_pos (by omega) ?_),Int.le_refl _,h1,fun h=>by omega⟩
   refine Ev.step (fun k=>by simp only [Fe.j1];rfl) ?_
   exact Ev.if_neg (by simpa using hn) (Ev.now n)
theorem weight_ends:∃ r,Ev (fun k=>Fe.f k l) r∧(l.length:Int)≤r∧r≤1000000000000000∧(r≤700→∀ c∈l,c.f1.length≤700):=by
 obtain ⟨r,h1,h2,h3,h4⟩:=weight_from l hl hv l.length 0 (by omega) (l.length:Int) (by omega) (by omega)
 refine ⟨r,h1,h2,h3,fun h c hc=>?_⟩
 obtain ⟨i,hi,rfl⟩:=List.mem_iff_getElem.1 hc
 exact h4 h i hi (by omega)
end
structure TbIn (t:Tb):Prop where
 len:t.f0.length≤10000000000000
 each:∀ c∈t.f0,c.f1.length≤10000000000000∧c.f0.size≤140737488351232∧∀ v∈c.f1,v.f1.size≤140737488351232
def TbSmall (t:Tb):Prop:=t.f0.length≤700∧∀ c∈t.f0,c.f1.length≤700
theorem tables_from (L:List Tb) (hL:L.length≤10000000000000) (hT:∀ t∈L,TbIn t) (d:Nat):∀ (j:Nat),j + d=L.length→∀ n:Int,0≤n→n≤2000000000000000 →
 ∃ r,Ev (fun k=>Fu.l0 k L n (j:Int)) r∧n≤r∧r≤2000000000000000∧(r≤700→∀ i (h:i<L.length),j≤i→TbSmall L[i]):=by
 have stop:∀ (n:Int) (j:Int),Ev (fun k=>Fu.j1 k L n j false) n:=fun n j=>Ev.step (fun k=>by simp only [Fu.j1];rfl) (Ev.if_neg (by simp) (Ev.now n))
 induction d with
 | zero=>
  intro j hj n h0 h1
  exact ⟨n,Ev.step (fun k=>by simp only [Fu.l0];rfl) (Ev.if_neg (by omega) (stop n _)),Int.le_refl _,h1,fun _ i hi hji=>by omega⟩
 | succ d ih=>
  intro j hj n h0 h1
  have hlt:j<L.length:=by omega
  have hb:=hT L[j] (List.getElem_mem hlt)
  by_cases hn:n<1048576
  ·obtain ⟨rw,e1,e2,e3,e4⟩:=weight_ends (L[j]).f0 hb.len hb.each
   have ew:wrap64 (n + rw)=n + rw:=by unfold wrap64;omega
   obtain ⟨r,hr,h2,h3,h4⟩:=ih (j + 1) (by omega) (n + rw) (by omega) (by omega)
   refine ⟨r,Ev.step (fun k=>by simp only [Fu.l0];rfl) (Ev.if_pos (by omega) ?_),by omega,h3,fun hr7 i hi hji=>?_⟩
   ·rw [decide_eq_true hn]
    refine Ev.step (fun k=>by simp only [Fu.j1];rfl) ?_
    refine Ev.if_pos (by first|rfl|trivial) (Ev.if_pos (by omega) (Ev.if_pos (by omega) ?_))
    rw [rdb_at L j hlt,wrap_succ j (by omega)]
    refine Ev.bind e1 ?_
    rw [ew]
    exact hr
   ·rcases Nat.eq_or_lt_of_le hji with rfl|h
    ·exact ⟨by omega,e4 (by omega)⟩
    ·exact h4 hr7 i hi (by omega)
  ·refine ⟨n,Ev.step (fun k=>by simp only [Fu.l0];rfl) (Ev.if_pos (by omega) ?_),Int.le_refl _,h1,fun h=>by omega⟩
   rw [decide_eq_false hn]
   exact stop n _
theorem texts_from (L:List ByteArray) (hL:L.length≤10000000000000) (hT:∀ t∈L,t.size≤140737488351232) (d:Nat):∀ (j:Nat),j + d=L.length→∀ n:Int,0≤n→n≤2000000000000000 →
 ∃ r,Ev (fun k=>Fv.l0 k L n (j:Int)) r∧0≤r∧r≤2000000000000000:=by
 have stop:∀ (n:Int) (j:Int),Ev (fun k=>Fv.j1 k L n j false) n:=fun n j=>Ev.step (fun k=>by simp only [Fv.j1];rfl) (Ev.if_neg (by simp) (Ev.now n))
 induction d with
 | zero=>
  intro j hj n h0 h1
  exact ⟨n,Ev.step (fun k=>by simp only [Fv.l0];rfl) (Ev.if_neg (by omega) (stop n _)),h0,h1⟩
 | succ d ih=>
  intro j hj n h0 h1
  have hlt:j<L.length:=by omega
  have hb:=hT L[j] (List.getElem_mem hlt)
  by_cases hn:n<1048576
  ·have er:rdOf ByteArray.empty L (j:Int)=L[j]:=by simp [rdOf,hlt]
   have ew:wrap64 (n + ((L[j]).size:Int))=n + ((L[j]).size:Int):=by unfold wrap64;omega
   obtain ⟨r,hr,h2,h3⟩:=ih (j + 1) (by omega) (n + ((L[j]).size:Int)) (by omega) (by omega)
   refine ⟨r,Ev.step (fun k=>by simp only [Fv.l0];rfl) (Ev.if_pos (by omega) ?_),h2,h3⟩
   rw [decide_eq_true hn]
   refine Ev.step (fun k=>by simp only [Fv.j1];rfl) ?_
   refine Ev.if_pos (by first|rfl|trivial) (Ev.if_pos (by omega) (Ev.if_pos (by omega) ?_))
   rw [er,ew,wrap_succ j (by omega)]
   exact hr
  ·refine ⟨n,Ev.step (fun k=>by simp only [Fv.l0];rfl) (Ev.if_pos (by omega) ?_),h0,h1⟩
   rw [decide_eq_false hn]
   exact stop n _
theorem writes_from (L:List Wt) (hL:L.length≤10000000000000) (hT:∀ t∈L,t.f1.size≤140737488351232∧t.f2.size≤140737488351232) (d:Nat):∀ (j:Nat),j + d=L.length→∀ n:Int,0≤n→n≤2000000000000000 →
 ∃ r,Ev (fun k=>Fp.l0 k L n (j:Int)) r∧0≤r∧r≤2000000000000000:=by
 have stop:∀ (n:Int) (j:Int),Ev (fun k=>Fp.j1 k L n j false) n:=fun n j=>Ev.step (fun k=>by simp only [Fp.j1];rfl) (Ev.if_neg (by simp) (Ev.now n))
 induction d with
 | zero=>
  intro j hj n h0 h1
  exact ⟨n,Ev.step (fun k=>by simp only [Fp.l0];rfl) (Ev.if_neg (by omega) (stop n _)),h0,h1⟩
 | succ d ih=>
  intro j hj n h0 h1
  have hlt:j<L.length:=by omega
  have hb:=hT L[j] (List.getElem_mem hlt)
  by_cases hn:n<1048576
  ·have e1:wrap64 ((((L[j]).f1).size:Int) + (((L[j]).f2).size:Int))=(((L[j]).f1).size:Int) + (((L[j]).f2).size:Int):=by unfold wrap64;omega
   have e2:Int.tdiv ((((L[j]).f1).size:Int) + (((L[j]).f2).size:Int)) 8=((((L[j]).f1).size:Int) + (((L[j]).f2).size:Int)) / 8:=Int.tdiv_eq_ediv_of_nonneg (by omega)
   have e3:wrap64 (((((L[j]).f1).size:Int) + (((L[j]).f2).size:Int)) / 8)=((((L[j]).f1).size:Int) + (((L[j]).f2).size:Int)) / 8:=by unfold wrap64;omega
   have ew:wrap64 (n + ((((L[j]).f1).size:Int) + (((L[j]).f2).size:Int)) / 8)=n + ((((L[j]).f1).size:Int) + (((L[j]).f2).size:Int)) / 8:=by unfold wrap64;omega
   obtain ⟨r,hr,h2,h3⟩:=ih (j + 1) (by omega) (n + ((((L[j]).f1).size:Int) + (((L[j]).f2).size:Int)) / 8) (by omega) (by omega)
   refine ⟨r,Ev.step (fun k=>by simp only [Fp.l0];rfl) (Ev.if_pos (by omega) ?_),h2,h3⟩
   rw [decide_eq_true hn]
   refine Ev.step (fun k=>by simp only [Fp.j1];rfl) ?_
   refine Ev.if_pos (by first|rfl|trivial) (Ev.if_pos (by omega) (Ev.if_pos (by omega) ?_))
   rw [rdw_at L j hlt,e1,e2,e3,ew,wrap_succ j (by omega)]
   exact hr
  ·refine ⟨n,Ev.step (fun k=>by simp only [Fp.l0];rfl) (Ev.if_pos (by omega) ?_),h0,h1⟩
   rw [decide_eq_false hn]
   exact stop n _
structure PdIn (p:Pd):Prop where
 ll:p.f0.length≤2932031007317
 lm:p.f1.length≤17592186043904
 each:∀ t∈p.f0,t.f1.size≤140737488351232∧t.f2.size≤140737488351232
section
variable (L:List Tb) (P:List Pd) (T:List Int) (K:List ByteArray) (R:List S55) (N:List Int)
theorem heavy_from (hP:P.length≤10000000000000) (hp:∀ p∈P,PdIn p) (d:Nat):∀ (j:Nat),j + d=P.length→∀ n:Int,0≤n→n≤9000000000000000→∃ b,Ev (fun k=>Fg.l0 k n (j:Int) L P T K R N) b∧(b=false→n≤700):=by
 have stop:∀ (n:Int) (j:Int),Ev (fun k=>Fg.j1 k n j false L P T K R N) (decide (n > 700)):=fun n j=>Ev.step (fun k=>by simp only [Fg.j1];rfl) (Ev.if_neg (by simp) (Ev.now _))
 have small:∀ n:Int,decide (n > 700)=false→n≤700:=fun n h=>by have:=of_decide_eq_false h;omega
 induction d with
 | zero=>
  intro j hj n h0 h1
  exact ⟨decide (n > 700),Ev.step (fun k=>by simp only [Fg.l0];rfl) (Ev.if_neg (by omega) (stop n _)),small n⟩
 | succ d ih=>
  intro j hj n h0 h1
  have hlt:j<P.length:=by omega
  have hb:=hp P[j] (List.getElem_mem hlt)
  by_cases hn:n<1048576
  ·obtain ⟨rw,e1,e2,e3⟩:=writes_from (P[j]).f0 (by have:=hb.ll;omega) hb.each (P[j]).f0.length 0 (by omega) ((P[j]).f0.length:Int) (by omega) (by have:=hb.ll;omega)
   have hm:=hb.lm
   have ew:wrap64 (wrap64 (n + rw) + (((P[j]).f1).length:Int))=n + rw + (((P[j]).f1).length:Int):=by unfold wrap64;omega
   obtain ⟨b,hr,h2⟩:=ih (j + 1) (by omega) (n + rw + (((P[j]).f1).length:Int)) (by omega) (by omega)
   refine ⟨b,Ev.step (fun k=>by simp only [Fg.l0];rfl) (Ev.if_pos (by omega) ?_),fun h=>by have:=h2 h;omega⟩
   rw [decide_eq_true hn]
   refine Ev.step (fun k=>by simp only [Fg.j1];rfl) ?_
   refine Ev.if_pos (by first|rfl|trivial) (Ev.if_pos (by omega) (Ev.if_pos (by omega) ?_))
   rw [rdp_at P j hlt,wrap_succ j (by omega)]
   refine Ev.bind (a:=rw) (by unfold Fp.f;exact e1) ?_
   rw [ew]
   exact hr
  ·refine ⟨decide (n > 700),Ev.step (fun k=>by simp only [Fg.l0];rfl) (Ev.if_pos (by omega) ?_),small n⟩
   rw [decide_eq_false hn]
   exact stop n _
theorem heavy_ev (hL:L.length≤10000000000000) (hT:∀ t∈L,TbIn t) (hP:P.length≤10000000000000) (hp:∀ p∈P,PdIn p) (hTl:T.length≤20000000000000) (hK:K.length≤10000000000000) (hk:∀ t∈K,t.size≤140737488351232) (hR:R.length≤10000000000000) (hN:N.length≤20000000000000) :
 ∃ b,Ev (fun k=>Fg.f k L P T K R N) b∧(b=false→∀ t∈L,TbSmall t):=by
 obtain ⟨rt,e1,e2,e3,e4⟩:=tables_from L hL hT L.length 0 (by omega) (L.length:Int) (by omega) (by omega)
 obtain ⟨rx,x1,x2,x3⟩:=texts_from K hK hk K.length 0 (by omega) (K.length:Int) (by omega) (by omega)
 have d1:Int.tdiv rx 8=rx / 8:=Int.tdiv_eq_ediv_of_nonneg x2
 have d2:wrap64 (rx / 8)=rx / 8:=by unfold wrap64;omega
 have d3:wrap64 (rt + rx / 8)=rt + rx / 8:=by unfold wrap64;omega
 have d4:wrap64 (rt + rx / 8 + (P.length:Int))=rt + rx / 8 + (P.length:Int):=by unfold wrap64;omega
 have d5:wrap64 (rt + rx / 8 + (P.length:Int) + (T.length:Int))=rt + rx / 8 + (P.length:Int) + (T.length:Int):=by unfold wrap64;omega
 have d6:wrap64 (rt + rx / 8 + (P.length:Int) + (T.length:Int) + (R.length:Int))=rt + rx / 8 + (P.length:Int) + (T.length:Int) + (R.length:Int):=by unfold wrap64;omega
 have d7:wrap64 (rt + rx / 8 + (P.length:Int) + (T.length:Int) + (R.length:Int) + (N.length:Int))=rt + rx / 8 + (P.length:Int) + (T.length:Int) + (R.length:Int) + (N.length:Int):=by unfold wrap64;omega
 obtain ⟨b,hb,h7⟩:=heavy_from L P T K R N hP hp P.length 0 (by omega) (rt + rx / 8 + (P.length:Int) + (T.length:Int) + (R.length:Int) + (N.length:Int)) (by omega) (by omega)
 refine ⟨b,?_,fun h t ht=>?_⟩
 ·unfold Fg.f
  refine Ev.bind (a:=rt) (by unfold Fu.f;exact e1) (Ev.bind (a:=rx) (by unfold Fv.f;exact x1) ?_)
  rw [d1,d2,d3,d4,d5,d6,d7]
  exact hb
 ·obtain ⟨i,hi,rfl⟩:=List.mem_iff_getElem.1 ht
  exact e4 (by have:=h7 h;omega) i hi (by omega)
end
end Go.Proofs.YtbaecdcfefmcgaaGreat.HTable
set_option linter.unusedSimpArgs false
set_option linter.unusedVariables false
set_option linter.unusedSectionVars false
namespace Go.Proofs.YtbaecdcfefmcgaaGreat.HView
open Go.RowKit Go.Proofs.YtbaecdcfefmcgaaGreat.PVrd Go.Proofs.YtbaecdcfefmcgaaGreat.HNum Go.Proofs.YtbaecdcfefmcgaaGreatW.PrintWords Go.Proofs.YtbaecdcfefmcgaaGreatW.PrintLast
open Go.Proofs.YtbaecdcfefmcgaaGreat.HTable (Tb Pd TabOK tabMay_ev refTab_ev TbSmall TbIn PdIn rdb_at rdp_at less rowsT Rows_ev rowsT_len seek_ev Asks_ev asksOK rangeOK Rw rdr_at sums copyT_ev EqTable_same)
open Go.Proofs.YtbaecdcfefmcgaaGreat.HChain (Ch)
open Go.Proofs.YtbaecdcfefmcgaaGreat.HPend (May May_ev wOK keyOK key_Is_eq Wr)
open Go.Proofs.YtbaecdcfefmcgaaGreat.HMerge (rless Merged Merge_ev less_ne less_irrefl)
open Go.Proofs.YtbaecdcfefmcgaaGreat.HAll (allOf okT all_mem mem_all keyB)
theorem okT_of {w:Wr} (h:wOK w=true):okT w:=by
 unfold wOK at h
 simp only [Bool.and_eq_true,decide_eq_true_eq] at h
 exact ⟨h.1,h.2.1⟩
theorem rows_asc (l:List Ch) (n:Int) (hs:l.Pairwise less):(rowsT l n).Pairwise rless:=by
 unfold rowsT
 refine List.Pairwise.filterMap _ (S:=rless) (R:=less) (fun a a' h b hb b' hb'=>?_) hs
 obtain ⟨v,hv,rfl⟩:=Option.map_eq_some_iff.1 hb
 obtain ⟨v',hv',rfl⟩:=Option.map_eq_some_iff.1 hb'
 exact h
theorem tlook (l:List Ch) (k:ByteArray) (n:Int) (hs:l.Pairwise less) :
 ∃ r:ByteArray×Bool,Ev (fun q=>F7.f q l k n) r∧(r.2=true→∃ row∈rowsT l n,row.f0.toList=k.toList∧row.f1=r.1)∧(r.2=false→∀ row∈rowsT l n,row.f0.toList≠k.toList):=by
 obtain ⟨p,hp,e⟩:=seek_ev l k hs
 have asc:=List.pairwise_iff_getElem.1 hs
 have away:(∀ h:p<l.length,(l[p]).f0.toList≠k.toList∨HChain.look (l[p]).f1 n=none)→∀ row∈rowsT l n,row.f0.toList≠k.toList:=fun h row hr hk=>by
  obtain ⟨c,hc,h2⟩:=List.mem_filterMap.1 hr
  obtain ⟨v,hv,rfl⟩:=Option.map_eq_some_iff.1 h2
  obtain ⟨i,hi,rfl⟩:=List.mem_iff_getElem.1 hc
  have hk2:(l[i]).f0.toList=k.toList:=hk
  rcases Nat.lt_trichotomy i p with h3|h3|h3
  ·exact less_ne (hp.low i hi h3) hk2
  ·subst h3
   rcases h hi with h4|h4
   ·exact h4 hk2
   ·rw [h4] at hv;cases hv
  ·have h4:Op.bytesLess (l[p]).f0.toList (l[i]).f0.toList=true:=asc p i (by omega) hi h3
   rw [hk2,hp.high p (by omega) (Nat.le_refl _)] at h4
   cases h4
 by_cases h:p<l.length
 ·rw [dif_pos h] at e
  cases hk:((l[p]).f0.toList == k.toList) with
  | true=>
   rw [hk] at e
   have hk2:(l[p]).f0.toList=k.toList:=by simpa using hk
   have hE:Ev (fun q=>F7.f q l k n) ((match HChain.look (l[p]).f1 n with|some x=>x.f1|none=>⟨#[]⟩),(HChain.look (l[p]).f1 n).isSome):=by
    unfold F7.f
    refine Ev.bind0 e (Ev.if_pos (by first|rfl|trivial) (Ev.if_pos (by omega) (Ev.if_pos (by omega) ?_)))
    rw [show rd_T83 l (p:Int)=l[p] by simp [rd_T83,h]]
    refine Ev.bind (HChain.Look_ev _ _ n) ?_
    cases HChain.look (l[p]).f1 n <;> exact Ev.now _
   refine ⟨_,hE,fun h2=>?_,fun h2=>away (fun _=>.inr ?_)⟩
   ·cases hl:HChain.look (l[p]).f1 n with
    | none=>rw [hl] at h2;cases h2
    | some x=>exact ⟨⟨(l[p]).f0,x.f1⟩,List.mem_filterMap.2 ⟨l[p],List.getElem_mem h,by rw [hl];rfl⟩,hk2,rfl⟩
   ·cases hl:HChain.look (l[p]).f1 n with
    | none=>rfl
    | some x=>rw [hl] at h2;cases h2
  | false=>
   rw [hk] at e
   refine ⟨(⟨#[]⟩,false),?_,fun h2=>(by cases h2),fun _=>away (fun _=>.inl (by simpa using hk))⟩
   unfold F7.f
   exact Ev.bind0 e (Ev.if_neg (by simp) (Ev.now _))
 ·rw [dif_neg h] at e
  refine ⟨(⟨#[]⟩,false),?_,fun h2=>(by cases h2),fun _=>away (fun h2=>absurd h2 h)⟩
  unfold F7.f
  exact Ev.bind0 e (Ev.if_neg (by simp) (Ev.now _))
def hitB (t:Int) (k:ByteArray) (x:Wr):Bool:=(x.f0 == t) && (x.f1.toList == k.toList)
theorem hit_key {t:Int} {k:ByteArray} {y:Wr} (h:hitB t k y=true):hitB t k=keyB y:=by
 unfold hitB at h
 simp only [Bool.and_eq_true,beq_iff_eq] at h
 funext x
 unfold hitB keyB
 rw [← h.1,← h.2,ByteArray.toList_eq,ByteArray.toList_eq,Bool.eq_iff_iff]
 simp only [Bool.and_eq_true,beq_iff_eq,decide_eq_true_eq]
section
variable (L:List Tb)
theorem vlook (l:List Wr) (m:List Int) (h12:l.length≤12) (hok:∀ x∈l,okT x) (t:Nat) (ht:t<L.length) (k:ByteArray) (n:Int) (hs:(L[t]).f0.Pairwise less) (M:List Rw) (hM:Merged (t:Int) (rowsT (L[t]).f0 n) (allOf l) M) :
 ∃ r:ByteArray×Bool,Ev (fun q=>Ga.f q L l m (t:Int) k n) r∧(r.2=true→∃ row∈M,row.f0.toList=k.toList∧row.f1=r.1)∧(r.2=false→∀ row∈M,row.f0.toList≠k.toList):=by
 have hlk:FZ.f l m (t:Int) k=some (FZ.out (l.reverse.find? (hitB (t:Int) k))):=by
  unfold FZ.f
  rw [if_pos h12]
  rfl
 cases hy:l.reverse.find? (hitB (t:Int) k) with
 | some y=>
  have hh:=List.find?_some hy
  have hh2:=hh
  unfold hitB at hh2
  simp only [Bool.and_eq_true,beq_iff_eq] at hh2
  have hall:y∈allOf l:=(mem_all l hok y).2 (by rw [List.head?_filter,← hit_key hh];exact hy)
  refine ⟨(y.f2,!y.f3),?_,fun h=>?_,fun h row hr hk=>?_⟩
  ·unfold Ga.f
   refine Ev.bind0 hlk ?_
   rw [hy]
   exact Ev.if_pos rfl (Ev.now _)
  ·have h3:y.f3=false:=by simpa using h
   exact ⟨⟨y.f1,y.f2⟩,(hM.mem _).2 (.inr ⟨y,hall,hh2.1,h3,rfl⟩),hh2.2,rfl⟩
  ·have h3:y.f3=true:=by simpa using h
   rcases (hM.mem row).1 hr with ⟨_,h4⟩|⟨w,hw,hwt,hw3,rfl⟩
   ·exact h4 y hall hh2.1 (hh2.2.trans hk.symm)
   ·have hwk:hitB (t:Int) k w=true:=by
     unfold hitB
     simp only [Bool.and_eq_true,beq_iff_eq]
     exact ⟨hwt,hk⟩
    have e1:=(mem_all l hok w).1 hw
    rw [List.head?_filter,← hit_key hwk,hy] at e1
    obtain rfl:=Option.some.inj e1
    rw [hw3] at h3
    cases h3
 | none=>
  have hno:∀ w∈allOf l,w.f0=(t:Int)→w.f1.toList≠k.toList:=fun w hw hwt hwk=>by
   have:=List.find?_eq_none.1 hy w (List.mem_reverse.2 (all_mem l hok w hw))
   simp [hitB,hwt,hwk] at this
  obtain ⟨r,e,h1,h2⟩:=tlook (L[t]).f0 k n hs
  refine ⟨r,?_,fun h=>?_,fun h row hr hk=>?_⟩
  ·unfold Ga.f
   refine Ev.bind0 hlk ?_
   rw [hy]
   refine Ev.if_neg (by simp [FZ.out]) (Ev.if_pos (by omega) (Ev.if_pos (by omega) ?_))
   rw [rdb_at L t ht]
   exact Ev.bind e (Ev.now _)
  ·obtain ⟨row,hr,hk,hv⟩:=h1 h
   exact ⟨row,(hM.mem row).2 (.inl ⟨hr,fun w hw hwt=>by rw [hk];exact hno w hw hwt⟩),hk,hv⟩
  ·rcases (hM.mem row).1 hr with ⟨h3,_⟩|⟨w,hw,hwt,_,rfl⟩
   ·exact h2 h row h3 hk
   ·exact hno w hw hwt hk
end
theorem chains_few (l:List Ch) (h:TabOK l):l.length≤64:=by
 have key:∀ l:List Ch,(∀ c∈l,0<c.f1.length)→l.length≤sums l:=by
  intro l
  induction l with
  | nil=>intro _;simp
  | cons c l ih=>
   intro h
   have h1:=ih (fun x hx=>h x (by simp [hx]))
   have h2:=h c (by simp)
   rw [HTable.sums_cons,List.length_cons]
   omega
 have h1:=key l (fun c hc=>(h.each c hc).2.2)
 have h2:=h.few
 omega
section
variable (L:List Tb)
def TsOK:Prop:=L.length≤3∧∀ t∈L,TabOK t.f0
section
variable (hsm:∀ t∈L,TbSmall t)
include hsm
open Classical in
theorem tabMay (t:Tb) (h:TbSmall t):Ev (fun k=>Fk.f k t.f0) (decide (TabOK t.f0)):=tabMay_ev t.f0 (by have:=h.1;omega) (fun c hc=>by have:=h.2 c hc;omega)
open Classical in
theorem may_val (l:List Wr) (m:List Int):Ev (fun k=>F1.f k L l m) (decide (TsOK L∧May l m)):=by
 have bad:∀ L':List Tb,(∀ t∈L',TbSmall t)→Ev (fun k=>FG.l0 k L') (!decide (∀ t∈L',TabOK t.f0)):=by
  intro L'
  induction L' with
  | nil=>exact fun _=>Ev.const (by simp [FG.l0])
  | cons t ts ih=>
   intro h1
   have hb:=ih (fun x hx=>h1 x (by simp [hx]))
   have hM:=tabMay L hsm t (h1 t (by simp))
   by_cases ht:TabOK t.f0
   ·rw [decide_eq_true ht] at hM
    have hC:Ev (fun k=>Gb.f k t.f0) false:=by unfold Gb.f;exact Ev.bind hM (Ev.now _)
    have e:decide (∀ x∈t :: ts,TabOK x.f0)=decide (∀ x∈ts,TabOK x.f0):=by
     rw [decide_eq_decide]
     exact ⟨fun h x hx=>h x (List.mem_cons_of_mem _ hx),fun h x hx=>(List.mem_cons.1 hx).elim (fun e=>by rw [e];exact ht) (h x)⟩
    rw [e]
    exact Ev.bind hC (Ev.if_neg (by simp) hb)
   ·rw [decide_eq_false ht] at hM
    have hC:Ev (fun k=>Gb.f k t.f0) true:=by unfold Gb.f;exact Ev.bind hM (Ev.now _)
    rw [decide_eq_false (fun h=>ht (h t (List.mem_cons_self ..)))]
    exact Ev.bind hC (Ev.if_pos (by first|rfl|trivial) (Ev.now _))
 have hC:Ev (fun k=>FG.f k L) (!decide (∀ t∈L,TabOK t.f0)):=by unfold FG.f;exact bad L hsm
 unfold F1.f
 by_cases h3:(L.length:Int)≤3
 ·refine Ev.if_pos h3 (Ev.bind hC ?_)
  by_cases hall:∀ t∈L,TabOK t.f0
  ·rw [decide_eq_true hall,show decide (TsOK L∧May l m)=decide (May l m) from decide_eq_decide.2 ⟨fun h=>h.2,fun h=>⟨⟨by omega,hall⟩,h⟩⟩]
   exact Ev.if_neg (by simp) (Ev.bind (May_ev l m) (Ev.now _))
  ·rw [decide_eq_false hall,decide_eq_false (fun h=>hall h.1.2)]
   exact Ev.if_pos rfl (Ev.now _)
 ·rw [decide_eq_false (fun h=>h3 (by have:=h.1.1;omega))]
  exact Ev.if_neg h3 (Ev.now _)
open Classical in
theorem tables_val (hl:L.length≤10000000000000):Ev (fun k=>Fw.f k L) (decide (TsOK L)):=by
 have stop:∀ j:Int,Ev (fun k=>Fw.j1 k L j false) (decide ((L.length:Int)≤3)):=fun j=>Ev.step (fun k=>by simp only [Fw.j1];rfl) (Ev.if_neg (by simp) (Ev.now _))
 have key:∀ d j:Nat,j + d=L.length→Ev (fun k=>Fw.l0 k L (j:Int)) (decide (L.length≤3∧∀ i (h:i<L.length),j≤i→TabOK (L[i]).f0)):=by
  intro d
  induction d with
  | zero=>
   intro j hj
   rw [show decide (L.length≤3∧∀ i (h:i<L.length),j≤i→TabOK (L[i]).f0)=decide ((L.length:Int)≤3) from decide_eq_decide.2 ⟨fun h=>by have:=h.1;omega,fun h=>⟨by omega,fun i hi hji=>by omega⟩⟩]
   exact Ev.step (fun k=>by simp only [Fw.l0];rfl) (Ev.if_neg (by omega) (stop _))
  | succ d ih=>
   intro j hj
   have hlt:j<L.length:=by omega
   refine Ev.step (fun k=>by simp only [Fw.l0];rfl) (Ev.if_pos (by omega) ?_)
   by_cases h3:(j:Int)≤3
   ·have hb:=hsm L[j] (List.getElem_mem hlt)
    have hR:=refTab_ev (L[j]).f0 (by have:=hb.1;omega) (fun c hc=>by have:=hb.2 c hc;omega)
    rw [decide_eq_true h3]
    refine Ev.step (fun k=>by simp only [Fw.j1];rfl) (Ev.if_pos (by first|rfl|trivial) (Ev.if_pos (by omega) (Ev.if_pos (by omega) ?_)))
    rw [rdb_at L j hlt,wrap_succ j (by omega)]
    refine Ev.bind hR ?_
    by_cases ht:TabOK (L[j]).f0
    ·rw [decide_eq_true ht,show decide (L.length≤3∧∀ i (h:i<L.length),j≤i→TabOK (L[i]).f0)=decide (L.length≤3∧∀ i (h:i<L.length),j + 1≤i→TabOK (L[i]).f0) from decide_eq_decide.2 ⟨fun h=>⟨h.1,fun i hi hji=>h.2 i hi (by omega)⟩,fun h=>⟨h.1,fun i hi hji=>by
      rcases Nat.eq_or_lt_of_le hji with rfl|h4
      ·exact ht
      ·exact h.2 i hi h4⟩⟩]
     exact Ev.if_pos rfl (ih (j + 1) (by omega))
    ·rw [decide_eq_false ht,decide_eq_false (fun h=>ht (h.2 j hlt (Nat.le_refl _)))]
     exact Ev.if_neg (by simp) (Ev.now _)
   ·rw [decide_eq_false h3,decide_eq_false (fun h=>by have:=h.1;omega)]
    have h:=stop (j:Int)
    rw [decide_eq_false (by omega)] at h
    exact h
 have h:=key L.length 0 (by omega)
 rw [show decide (TsOK L)=decide (L.length≤3∧∀ i (h:i<L.length),0≤i→TabOK (L[i]).f0) from decide_eq_decide.2 ⟨fun h=>⟨h.1,fun i hi _=>h.2 _ (List.getElem_mem hi)⟩,fun h=>⟨h.1,fun t ht=>by obtain ⟨i,hi,rfl⟩:=List.mem_iff_getElem.1 ht;exact h.2 i hi (Nat.zero_le _)⟩⟩]
 exact h
theorem copyTs_ev (hl:L.length≤5864062014634):Ev (fun k=>FO.f k L) L:=by
 have key:∀ d j:Nat,j + d=L.length→Ev (fun k=>FO.l0 k L (L.take j) (j:Int)) L:=by
  intro d
  induction d with
  | zero=>
   intro j hj
   refine Ev.step (fun k=>by simp only [FO.l0];rfl) (Ev.if_neg (by omega) ?_)
   rw [List.take_of_length_le (by omega)]
   exact Ev.now _
  | succ d ih=>
   intro j hj
   have hlt:j<L.length:=by omega
   have hb:=hsm L[j] (List.getElem_mem hlt)
   refine Ev.step (fun k=>by simp only [FO.l0];rfl) (Ev.if_pos (by omega) (Ev.if_pos (by omega) ?_))
   rw [rdb_at L j hlt,wrap_succ j (by omega)]
   refine Ev.bind (copyT_ev (L[j]).f0 (by have:=hb.1;omega) (fun c hc=>by have:=hb.2 c hc;omega)) (Ev.if_pos (by rw [List.length_take];omega) ?_)
   rw [show L.take j ++ [(⟨(L[j]).f0⟩:Tb)]=L.take (j + 1) from by rw [List.take_succ_eq_append_getElem hlt]]
   exact ih (j + 1) (by omega)
 exact key L.length 0 (by omega)
theorem EqTables_same (hl:L.length≤5864062014634):Ev (fun k=>Fx.f k L L) true:=by
 have key:∀ d j:Nat,j + d=L.length→Ev (fun k=>Fx.l0 k L L (j:Int)) true:=by
  intro d
  induction d with
  | zero=>
   intro j hj
   exact Ev.step (fun k=>by simp only [Fx.l0];rfl) (Ev.if_neg (by omega) (Ev.now true))
  | succ d ih=>
   intro j hj
   have hlt:j<L.length:=by omega
   have hb:=hsm L[j] (List.getElem_mem hlt)
   refine Ev.step (fun k=>by simp only [Fx.l0];rfl) (Ev.if_pos (by omega) (Ev.if_pos (by omega) (Ev.if_pos (by omega) ?_)))
   rw [rdb_at L j hlt,wrap_succ j (by omega)]
   exact Ev.bind (EqTable_same (L[j]).f0 (by have:=hb.1;omega) (fun c hc=>by have:=hb.2 c hc;omega)) (Ev.if_pos rfl (ih (j + 1) (by omega)))
 unfold Fx.f
 exact Ev.if_pos rfl (key L.length 0 (by omega))
section
variable (l:List Wr) (m:List Int) (t:Int)
def Good:Prop:=(TsOK L∧May l m)∧0≤t∧t<L.length
open Classical in
theorem there_val:Gj.f L t=some (decide (0≤t∧t<L.length)):=by
 unfold Gj.f
 by_cases h:t≥0
 ·rw [if_pos h,show decide (0≤t∧t<(L.length:Int))=decide (t<(L.length:Int)) from decide_eq_decide.2 ⟨fun h=>h.2,fun h2=>⟨h,h2⟩⟩]
 ·rw [if_neg h,decide_eq_false (fun h2=>h h2.1)]
theorem get_no (hno:¬ Good L l m t) (key:ByteArray) (n:Int):Ev (fun k=>Fq.f k L l m t key n) (⟨#[]⟩,1):=by
 classical
 have out:Ev (fun k=>Fq.j0 k L t key n true l m) (⟨#[]⟩,1):=Ev.step (fun k=>by simp only [Fq.j0];rfl) (Ev.if_pos (by first|rfl|trivial) (Ev.now _))
 unfold Fq.f
 refine Ev.bind (may_val L hsm l m) ?_
 by_cases h1:TsOK L∧May l m
 ·rw [decide_eq_true h1]
  refine Ev.if_pos rfl (Ev.bind0 (there_val L hsm t) ?_)
  rw [decide_eq_false (fun h2=>hno ⟨h1,h2⟩)]
  exact Ev.if_neg (by simp) out
 ·rw [decide_eq_false h1]
  exact Ev.if_neg (by simp) out
theorem get_val (h:Good L l m t) (key:ByteArray) (n:Int) (r:ByteArray×Bool) (hr:Ev (fun q=>Ga.f q L l m t key n) r) :
 Ev (fun k=>Fq.f k L l m t key n) (if keyOK key=true then (if r.2=true then (r.1,0) else (⟨#[]⟩,3)) else (⟨#[]⟩,1)):=by
 classical
 have hv:=may_val L hsm l m
 rw [decide_eq_true h.1] at hv
 have ht:=there_val L hsm t
 rw [decide_eq_true h.2] at ht
 unfold Fq.f
 refine Ev.bind hv (Ev.if_pos (by first|rfl|trivial) (Ev.bind0 ht (Ev.if_pos (by first|rfl|trivial) (Ev.bind0 (key_Is_eq key) ?_))))
 cases hk:keyOK key with
 | true=>
  rw [if_pos rfl]
  refine Ev.step (fun k=>by simp only [Fq.j0];rfl) (Ev.if_neg (by simp) (Ev.bind hr ?_))
  cases h:r.2 with
  | true=>exact Ev.if_pos (by first|rfl|trivial) (Ev.now _)
  | false=>exact Ev.if_neg (by simp) (Ev.now _)
 | false=>
  rw [if_neg (by simp)]
  exact Ev.step (fun k=>by simp only [Fq.j0];rfl) (Ev.if_pos (by simp) (Ev.now _))
theorem scan_no (lo hi:ByteArray) (top:Bool) (n many:Int) (back:Bool) (hno:¬ (Good L l m t∧asksOK lo hi top many=true)):Ev (fun k=>Fs.f k L l m t lo hi top n many back) ([],1):=by
 classical
 have out:Ev (fun k=>Fs.j0 k L t n many back true l m lo hi top) ([],1):=Ev.step (fun k=>by simp only [Fs.j0];rfl) (Ev.if_pos (by first|rfl|trivial) (Ev.now _))
 unfold Fs.f
 refine Ev.bind (may_val L hsm l m) ?_
 by_cases h1:TsOK L∧May l m
 ·rw [decide_eq_true h1]
  refine Ev.if_pos rfl (Ev.bind0 (there_val L hsm t) ?_)
  by_cases h2:0≤t∧t<(L.length:Int)
  ·rw [decide_eq_true h2]
   refine Ev.if_pos rfl (Ev.bind (Asks_ev lo hi top many) ?_)
   cases ha:asksOK lo hi top many with
   | true=>exact absurd ⟨⟨h1,h2⟩,ha⟩ hno
   | false=>exact out
  ·rw [decide_eq_false h2]
   exact Ev.if_neg (by simp) out
 ·rw [decide_eq_false h1]
  exact Ev.if_neg (by simp) out
theorem scan_val (h:Good L l m t) (lo hi:ByteArray) (top:Bool) (n many:Int) (back:Bool) (ha:asksOK lo hi top many=true) (h0:0≤many) (M:List Rw) (hlen:M.length≤100)
 (hM:Merged t (rowsT (rd_T43 L t).f0 n) (allOf l) M):Ev (fun k=>Fs.f k L l m t lo hi top n many back) (HSome.someOf M lo hi top many back,0):=by
 classical
 obtain ⟨j,rfl⟩:∃ j:Nat,t=(j:Int):=⟨t.toNat,by have:=h.2.1;omega⟩
 have hj:j<L.length:=by have:=h.2.2;omega
 rw [rdb_at L j hj] at hM
 have hv:=may_val L hsm l m
 rw [decide_eq_true h.1] at hv
 have ht:=there_val L hsm (j:Int)
 rw [decide_eq_true h.2] at ht
 have hm:=h.1.2
 have htab:=h.1.1.2 L[j] (List.getElem_mem hj)
 have hts:=hsm L[j] (List.getElem_mem hj)
 have hfew:=chains_few (L[j]).f0 htab
 have hrl:=rowsT_len (L[j]).f0 n
 have hA:=Asks_ev lo hi top many
 rw [ha] at hA
 obtain ⟨M',hMe,hM'⟩:=Merge_ev (j:Int) (rowsT (L[j]).f0 n) (rows_asc (L[j]).f0 n htab.asc) (by omega) l m hm.few (fun x hx=>okT_of (hm.each x hx))
 obtain rfl:=hM.one hM'
 unfold Fs.f
 refine Ev.bind hv (Ev.if_pos (by first|rfl|trivial) (Ev.bind0 ht (Ev.if_pos (by first|rfl|trivial) (Ev.bind hA ?_))))
 refine Ev.step (fun k=>by simp only [Fs.j0];rfl) (Ev.if_neg (by simp) (Ev.if_pos (by omega) (Ev.if_pos (by omega) ?_)))
 rw [rdb_at L j hj]
 refine Ev.bind (Rows_ev (L[j]).f0 n (by omega) (fun c hc=>by have:=hts.2 c hc;omega)) (Ev.bind hMe (Ev.bind0 (a:=HSome.someOf M lo hi top many back) ?_ (Ev.now _)))
 unfold GB.f
 rw [if_pos ⟨by omega,h0⟩]
theorem rows_there (h:Good L l m t) (n:Int):∃ M,Merged t (rowsT (rd_T43 L t).f0 n) (allOf l) M∧M.length≤100∧Ev (fun k=>Fr.f k (rowsT (rd_T43 L t).f0 n) l m t) M:=by
 obtain ⟨j,rfl⟩:∃ j:Nat,t=(j:Int):=⟨t.toNat,by have:=h.2.1;omega⟩
 have hj:j<L.length:=by have:=h.2.2;omega
 rw [rdb_at L j hj]
 have hm:=h.1.2
 have htab:=h.1.1.2 L[j] (List.getElem_mem hj)
 have hfew:=chains_few (L[j]).f0 htab
 have hrl:=rowsT_len (L[j]).f0 n
 have hasc:=rows_asc (L[j]).f0 n htab.asc
 obtain ⟨M,hMe,hM⟩:=Merge_ev (j:Int) (rowsT (L[j]).f0 n) hasc (by omega) l m hm.few (fun x hx=>okT_of (hm.each x hx))
 have h1:=hM.len
 have h2:=HAll.all_len l
 have h4:=hm.few
 exact ⟨M,hM,by omega,HMerge.Own_ev (j:Int) (rowsT (L[j]).f0 n) hasc (by omega) l m hm M hM⟩
theorem look_there (h:Good L l m t) (n:Int) (M:List Rw) (hM:Merged t (rowsT (rd_T43 L t).f0 n) (allOf l) M) (k:ByteArray) :
 ∃ r:ByteArray×Bool,Ev (fun q=>Ga.f q L l m t k n) r∧(r.2=true→∃ row∈M,row.f0.toList=k.toList∧row.f1=r.1)∧(r.2=false→∀ row∈M,row.f0.toList≠k.toList):=by
 obtain ⟨j,rfl⟩:∃ j:Nat,t=(j:Int):=⟨t.toNat,by have:=h.2.1;omega⟩
 have hj:j<L.length:=by have:=h.2.2;omega
 rw [rdb_at L j hj] at hM
 exact vlook L l m h.1.2.few (fun x hx=>okT_of (h.1.2.each x hx)) j hj k n (h.1.1.2 L[j] (List.getElem_mem hj)).asc M hM
end
end
end
theorem at_row (M:List Rw) (hs:M.Pairwise rless) (hl:M.length≤100) (k:ByteArray):(∃ row∈M,row.f0.toList=k.toList∧∃ j:Nat,∃ h:j<M.length,M[j]=row∧Ev (fun q=>Fy.f q M k) (j:Int))∨((∀ row∈M,row.f0.toList≠k.toList)∧Ev (fun q=>Fy.f q M k) (-1)):=by
 obtain ⟨A,B,C,f,e,_,hA,hC,hB⟩:=HMerge.seek_ev M k hs
 rcases hB with ⟨rfl,_⟩|⟨b,rfl,hb,_⟩
 ·have hno:∀ row∈A ++ C,row.f0.toList≠k.toList:=fun row hr=>(List.mem_append.1 hr).elim (fun h=>less_ne (hA row h)) (fun h=>(less_ne (hC row h)).symm)
  have e2:M=(A ++ C) ++ []:=by rw [e];simp
  have hat:=HMerge.At_ev (A ++ C) [] k hno (fun r hr=>by cases hr) (by rw [← e2];omega)
  rw [← e2,if_pos rfl] at hat
  exact .inr ⟨fun row hr=>hno row (by rw [e] at hr;exact hr),hat⟩
 ·have e2:M=A ++ b :: C:=by rw [e];rfl
  have hat:=HMerge.At_ev A (b :: C) k (fun r hr=>less_ne (hA r hr)) (fun r hr=>by cases hr;exact hb) (by rw [← e2];omega)
  rw [← e2,if_neg (by simp)] at hat
  have hlt:A.length<M.length:=by rw [e2,List.length_append,List.length_cons];omega
  refine .inl ⟨b,by rw [e2];simp,hb,A.length,hlt,?_,hat⟩
  subst e2
  rw [List.getElem_append_right (Nat.le_refl _)]
  simp
theorem spoil_ends (l:List Rw) (hl:l.length≤1000000):∃ r,Ev (fun k=>FR.f k l) r:=by
 have key:∀ d j:Nat,∀ x:List Rw,x.length=l.length→j + d=l.length→∃ r,Ev (fun k=>FR.l0 k x (j:Int)) r:=by
  intro d
  induction d with
  | zero=>
   intro j x hx hj
   exact ⟨x,Ev.step (fun k=>by simp only [FR.l0];rfl) (Ev.if_neg (by omega) (Ev.now _))⟩
  | succ d ih=>
   intro j x hx hj
   obtain ⟨r,hr⟩:=ih (j + 1) (x.set (j:Int).toNat (⟨(⟨#[115,112,111,105,108,116]⟩:ByteArray),(⟨#[]⟩:ByteArray)⟩:Rw)) (by rw [List.length_set];exact hx) (by omega)
   refine ⟨r,Ev.step (fun k=>by simp only [FR.l0];rfl) (Ev.if_pos (by omega) (Ev.if_pos (by omega) ?_))⟩
   rw [wrap_succ j (by omega)]
   exact hr
 exact key l.length 0 l rfl (by omega)
theorem num_val (a b:Int):FJ.f a b=some (decide (0≤a∧a≤b)):=by
 unfold FJ.f
 by_cases h:a≥0
 ·rw [if_pos h,show decide (0≤a∧a≤b)=decide (a≤b) from decide_eq_decide.2 ⟨fun h=>h.2,fun h2=>⟨h,h2⟩⟩]
 ·rw [if_neg h,decide_eq_false (fun h2=>h h2.1)]
theorem copyW_ev (l:List Wr) (hl:l.length≤2932031007317):Ev (fun k=>FA.f k l) l:=by
 have key:∀ d j:Nat,j + d=l.length→Ev (fun k=>FA.l0 k l (l.take j) (j:Int)) l:=by
  intro d
  induction d with
  | zero=>
   intro j hj
   refine Ev.step (fun k=>by simp only [FA.l0];rfl) (Ev.if_neg (by omega) ?_)
   rw [List.take_of_length_le (by omega)]
   exact Ev.now _
  | succ d ih=>
   intro j hj
   have hlt:j<l.length:=by omega
   refine Ev.step (fun k=>by simp only [FA.l0];rfl) (Ev.if_pos (by omega) (Ev.if_pos (by omega) (Ev.if_pos (by rw [List.length_take];omega) ?_)))
   rw [HPend.rdw_at l j hlt,wrap_succ j (by omega),show l.take j ++ [(⟨(l[j]).f0,(l[j]).f1,(l[j]).f2,(l[j]).f3⟩:Wr)]=l.take (j + 1) from by rw [List.take_succ_eq_append_getElem hlt]]
   exact ih (j + 1) (by omega)
 exact key l.length 0 (by omega)
theorem copyN_ev (l:List Int) (hl:l.length≤17592186043904):Ev (fun k=>FV.f k l) l:=by
 have key:∀ d j:Nat,j + d=l.length→Ev (fun k=>FV.l0 k l (l.take j) (j:Int)) l:=by
  intro d
  induction d with
  | zero=>
   intro j hj
   refine Ev.step (fun k=>by simp only [FV.l0];rfl) (Ev.if_neg (by omega) ?_)
   rw [List.take_of_length_le (by omega)]
   exact Ev.now _
  | succ d ih=>
   intro j hj
   have hlt:j<l.length:=by omega
   refine Ev.step (fun k=>by simp only [FV.l0];rfl) (Ev.if_pos (by omega) (Ev.if_pos (by omega) (Ev.if_pos (by rw [List.length_take];omega) ?_)))
   rw [HPend.rdn_at l j hlt,wrap_succ j (by omega),show l.take j ++ [l[j]]=l.take (j + 1) from by rw [List.take_succ_eq_append_getElem hlt]]
   exact ih (j + 1) (by omega)
 exact key l.length 0 (by omega)
theorem copyP_ev (p:Pd) (hp:PdIn p):Ev (fun k=>Gn.f k p.f0 p.f1) (p.f0,p.f1):=by
 unfold Gn.f
 exact Ev.bind (copyW_ev p.f0 hp.ll) (Ev.bind (copyN_ev p.f1 hp.lm) (Ev.now _))
end Go.Proofs.YtbaecdcfefmcgaaGreat.HView
namespace Go.Proofs.YtbaecdcfefmcgaaGreat.OpViewReads
open Go.RowKit Go.Proofs.YtbaecdcfefmcgaaGreat.HOpen Go.Proofs.YtbaecdcfefmcgaaGreat.PVrd Go.Proofs.YtbaecdcfefmcgaaGreatW.PrintWords Go.Proofs.YtbaecdcfefmcgaaGreatW.PrintLast
set_option linter.unusedVariables false
def wf78 (x:S78):Prop:=(Lit.int .i64 x.f0).wf=true∧x.f1.size≤140737488351232∧True
theorem open78:Opens Tryz.prog 78 k78 wf78:=opens_struct (fun x:S78=>(x.f0,x.f1,x.f2)) (fun p=>⟨p.1,p.2.1,p.2.2⟩) (fun _=>rfl) Tryz.underlying78 (by kernel_rfl) (opensF_cons rfl (opens_int Tryz.underlying3 (by kernel_rfl)) rfl (opensF_cons rfl (opens_string Tryz.underlying9 (by kernel_rfl)) rfl (opensF_one rfl (opens_bool Tryz.underlying4 (by kernel_rfl)))))
def wf83 (x:S83):Prop:=x.f0.size≤140737488351232∧(x.f1.length≤9223372036854775807∧x.f1.length * 32≤140737488351232∧∀ e0∈x.f1,wf78 e0)
theorem open83:Opens Tryz.prog 83 k83 wf83:=opens_struct (fun x:S83=>(x.f0,x.f1)) (fun p=>⟨p.1,p.2⟩) (fun _=>rfl) Tryz.underlying83 (by kernel_rfl) (opensF_cons rfl (opens_string Tryz.underlying9 (by kernel_rfl)) rfl (opensF_one rfl (opens_slice 78 (B:=32) Tryz.underlying81 (by kernel_rfl) (by kernel_rfl) open78)))
def wf43 (x:S43):Prop:=(x.f0.length≤9223372036854775807∧x.f0.length * 40≤140737488351232∧∀ e0∈x.f0,wf83 e0)
theorem open43:Opens Tryz.prog 43 k43 wf43:=opens_struct (fun x:S43=>(x.f0)) (fun p=>⟨p⟩) (fun _=>rfl) Tryz.underlying43 (by kernel_rfl) (opensF_one rfl (opens_slice 83 (B:=40) Tryz.underlying41 (by kernel_rfl) (by kernel_rfl) open83))
def wf72 (x:S72):Prop:=(Lit.int .i64 x.f0).wf=true∧x.f1.size≤140737488351232∧x.f2.size≤140737488351232∧True
theorem open72:Opens Tryz.prog 72 k72 wf72:=opens_struct (fun x:S72=>(x.f0,x.f1,x.f2,x.f3)) (fun p=>⟨p.1,p.2.1,p.2.2.1,p.2.2.2⟩) (fun _=>rfl) Tryz.underlying72 (by kernel_rfl) (opensF_cons rfl (opens_int Tryz.underlying3 (by kernel_rfl)) rfl (opensF_cons rfl (opens_string Tryz.underlying9 (by kernel_rfl)) rfl (opensF_cons rfl (opens_string Tryz.underlying9 (by kernel_rfl)) rfl (opensF_one rfl (opens_bool Tryz.underlying4 (by kernel_rfl))))))
def wf34 (x:S34):Prop:=(x.f0.length≤9223372036854775807∧x.f0.length * 48≤140737488351232∧∀ e0∈x.f0,wf72 e0)∧(x.f1.length≤9223372036854775807∧x.f1.length * 8≤140737488351232∧∀ e0∈x.f1,(Lit.int .i64 e0).wf=true)
theorem open34:Opens Tryz.prog 34 k34 wf34:=opens_struct (fun x:S34=>(x.f0,x.f1)) (fun p=>⟨p.1,p.2⟩) (fun _=>rfl) Tryz.underlying34 (by kernel_rfl) (opensF_cons rfl (opens_slice 72 (B:=48) Tryz.underlying32 (by kernel_rfl) (by kernel_rfl) open72) rfl (opensF_one rfl (opens_slice 3 (B:=8) Tryz.underlying24 (by kernel_rfl) (by kernel_rfl) (opens_int Tryz.underlying3 (by kernel_rfl)))))
def wf55 (x:S55):Prop:=x.f0.size≤140737488351232∧x.f1.size≤140737488351232∧True
theorem open55:Opens Tryz.prog 55 k55 wf55:=opens_struct (fun x:S55=>(x.f0,x.f1,x.f2)) (fun p=>⟨p.1,p.2.1,p.2.2⟩) (fun _=>rfl) Tryz.underlying55 (by kernel_rfl) (opensF_cons rfl (opens_string Tryz.underlying9 (by kernel_rfl)) rfl (opensF_cons rfl (opens_string Tryz.underlying9 (by kernel_rfl)) rfl (opensF_one rfl (opens_bool Tryz.underlying4 (by kernel_rfl)))))
abbrev kTop:=(Kd.pair (Kd.slice 43 k43) (Kd.pair (Kd.slice 34 k34) (Kd.pair (Kd.slice 3 (Kd.int .i64)) (Kd.pair (Kd.slice 9 Kd.string) (Kd.pair (Kd.slice 55 k55) (Kd.slice 3 (Kd.int .i64)))))))
set_option maxRecDepth 100000 in
theorem openTop:Opens Tryz.prog 28 kTop (fun p=>(p.1.length≤9223372036854775807∧p.1.length * 24≤140737488351232∧∀ e0∈p.1,wf43 e0)∧(p.2.1.length≤9223372036854775807∧p.2.1.length * 48≤140737488351232∧∀ e0∈p.2.1,wf34 e0)∧(p.2.2.1.length≤9223372036854775807∧p.2.2.1.length * 8≤140737488351232∧∀ e0∈p.2.2.1,(Lit.int .i64 e0).wf=true)∧(p.2.2.2.1.length≤9223372036854775807∧p.2.2.2.1.length * 16≤140737488351232∧∀ e0∈p.2.2.2.1,e0.size≤140737488351232)∧(p.2.2.2.2.1.length≤9223372036854775807∧p.2.2.2.2.1.length * 40≤140737488351232∧∀ e0∈p.2.2.2.2.1,wf55 e0)∧(p.2.2.2.2.2.length≤9223372036854775807∧p.2.2.2.2.2.length * 8≤140737488351232∧∀ e0∈p.2.2.2.2.2,(Lit.int .i64 e0).wf=true)):=(opens_fields Tryz.underlying28 (by kernel_rfl) (opensF_cons rfl (opens_slice 43 (B:=24) Tryz.underlying22 (by kernel_rfl) (by kernel_rfl) open43) rfl (opensF_cons rfl (opens_slice 34 (B:=48) Tryz.underlying23 (by kernel_rfl) (by kernel_rfl) open34) rfl (opensF_cons rfl (opens_slice 3 (B:=8) Tryz.underlying24 (by kernel_rfl) (by kernel_rfl) (opens_int Tryz.underlying3 (by kernel_rfl))) rfl (opensF_cons rfl (opens_slice 9 (B:=16) Tryz.underlying25 (by kernel_rfl) (by kernel_rfl) (opens_string Tryz.underlying9 (by kernel_rfl))) rfl (opensF_cons rfl (opens_slice 55 (B:=40) Tryz.underlying26 (by kernel_rfl) (by kernel_rfl) open55) rfl (opensF_one rfl (opens_slice 3 (B:=8) Tryz.underlying24 (by kernel_rfl) (by kernel_rfl) (opens_int Tryz.underlying3 (by kernel_rfl))))))))))
def Pure:Prop:=∀ (l0_0:(List S43)) (l0_1:(List S34)) (l0_2:(List Int)) (l0_3:(List ByteArray)) (l0_4:(List S55)) (l0_5:(List Int)),(l0_0.length≤9223372036854775807∧l0_0.length * 24≤140737488351232∧∀ e0∈l0_0,wf43 e0)→(l0_1.length≤9223372036854775807∧l0_1.length * 48≤140737488351232∧∀ e0∈l0_1,wf34 e0)→(l0_2.length≤9223372036854775807∧l0_2.length * 8≤140737488351232∧∀ e0∈l0_2,(Lit.int .i64 e0).wf=true)→(l0_3.length≤9223372036854775807∧l0_3.length * 16≤140737488351232∧∀ e0∈l0_3,e0.size≤140737488351232)→(l0_4.length≤9223372036854775807∧l0_4.length * 40≤140737488351232∧∀ e0∈l0_4,wf55 e0)→(l0_5.length≤9223372036854775807∧l0_5.length * 8≤140737488351232∧∀ e0∈l0_5,(Lit.int .i64 e0).wf=true)→∃ k,Fa.f k l0_0 l0_1 l0_2 l0_3 l0_4 l0_5=some true
end Go.Proofs.YtbaecdcfefmcgaaGreat.OpViewReads
set_option linter.unusedSimpArgs false
set_option linter.unusedVariables false
set_option linter.unusedSectionVars false
namespace Go.Proofs.YtbaecdcfefmcgaaGreat.HView
open Go.RowKit Go.Proofs.YtbaecdcfefmcgaaGreat.PVrd Go.Proofs.YtbaecdcfefmcgaaGreat.HNum Go.Proofs.YtbaecdcfefmcgaaGreatW.PrintWords Go.Proofs.YtbaecdcfefmcgaaGreatW.PrintLast
open Go.Proofs.YtbaecdcfefmcgaaGreat.HTable (Tb Pd TbSmall TbIn PdIn rdb_at rdp_at rowsT asksOK rangeOK Rw rdr_at heavy_ev refMap_ev refRange_ev refRows_ev EqRows_same)
open Go.Proofs.YtbaecdcfefmcgaaGreat.HPend (May wOK keyOK ref_Key_eq Wr rdn_at ref_ev EqPend_same)
open Go.Proofs.YtbaecdcfefmcgaaGreat.HMerge (Merged)
open Go.Proofs.YtbaecdcfefmcgaaGreat.HAll (allOf)
theorem someOf_len (M:List Rw) (lo hi:ByteArray) (top:Bool) (many:Int) (back:Bool):(HSome.someOf M lo hi top many back).length≤M.length:=by
 unfold HSome.someOf
 rw [List.length_take]
 have h:=List.length_filter_le (HSome.keep lo hi top) M
 cases back with
 | true=>rw [if_pos rfl,List.length_reverse];omega
 | false=>rw [if_neg (by simp)];omega
theorem num_eq (e:Int):F0.f e=some e:=rfl
theorem wakes_true:Ev (fun k=>Gk.f k) true:=by
 refine Ev.of Gk.mono (k:=60) ?_
 decide +kernel
abbrev Rg:=S55
theorem rdg_at (l:List Rg) (j:Nat) (h:j<l.length):rd_T55 l (j:Int)=l[j]:=by simp [rd_T55,h]
section
variable (L:List Tb) (P:List Pd) (T:List Int) (K:List ByteArray) (R:List Rg) (N:List Int) (tb:Bool) (PP:List Pd) (TT NN:List Int)
section
variable (i:Nat) (may:Bool) (a b:Nat) (g:Bool) (M:List Rw) (l:List Wr) (m:List Int) (hsm:∀ t∈L,TbSmall t) (ha:a<TT.length) (hb:b<NN.length) (hi4:i<4) (ha5:a<5) (hb4:b<4)
 (hg:g=true→Good L l m TT[a]∧Merged TT[a] (rowsT (rd_T43 L TT[a]).f0 NN[b]) (allOf l) M∧M.length≤100) (hg2:g=false→¬ Good L l m TT[a])
include hsm ha hb hi4 ha5 hb4 hg hg2
theorem key_same (q:Nat) (hq:q<K.length) (hq6:q<6) (next:Ev (fun k=>Fa.l3 k L tb PP TT NN (i:Int) may (a:Int) (b:Int) g M ((q + 1:Nat):Int) L P T K R N l m) true):Ev (fun k=>Fa.j10 k L tb PP TT NN (i:Int) may (a:Int) (b:Int) g M (q:Int) true L P T K R N l m) true:=by
 have on:Ev (fun k=>Fa.j13 k L tb PP TT NN (i:Int) may (a:Int) (b:Int) g M (q:Int) false L P T K R N l m) true:=by
  refine Ev.step (fun k=>by simp only [Fa.j13];rfl) (Ev.if_neg (by simp) ?_)
  rw [wrap_succ q (by omega)]
  exact next
 have same:∀ (v:ByteArray) (e:Int),Ev (fun k=>Fa.j12 k L tb PP TT NN (i:Int) may (a:Int) (b:Int) g M (q:Int) v e e v L P T K R N l m) true:=fun v e=>by
  refine Ev.step (fun k=>by simp only [Fa.j12];rfl) (Ev.bind0 (num_eq e) (Ev.if_pos rfl ?_))
  rw [show (v.toList != v.toList)=false from by simp]
  exact on
 have erd:rdOf ByteArray.empty K (q:Int)=K[q]:=by simp [rdOf,hq]
 refine Ev.step (fun k=>by simp only [Fa.j10];rfl) (Ev.if_pos (by first|rfl|trivial) (Ev.if_pos (by omega) (Ev.if_pos (by omega) (Ev.if_pos (by omega) (Ev.if_pos (by omega) (Ev.if_pos (by omega) (Ev.if_pos (by omega) ?_)))))))
 rw [erd,rdn_at TT a ha,rdn_at NN b hb]
 have off:∀ v e,Ev (fun k=>Fa.j11 k L tb PP TT NN (i:Int) may (a:Int) (b:Int) g M (q:Int) v e 1 (⟨#[]⟩:ByteArray) false L P T K R N l m) true→Ev (fun k=>Fa.j11 k L tb PP TT NN (i:Int) may (a:Int) (b:Int) g M (q:Int) v e 1 (⟨#[]⟩:ByteArray) false L P T K R N l m) true:=fun _ _ h=>h
 cases hgc:g with
 | false=>
  refine Ev.bind (get_no L hsm l m TT[a] (hg2 hgc) K[q] NN[b]) (Ev.if_neg (by simp) ?_)
  rw [hgc] at same
  exact Ev.step (fun k=>by simp only [Fa.j11];rfl) (Ev.if_neg (by simp) (same ⟨#[]⟩ 1))
 | true=>
  obtain ⟨hG,hM,hlen⟩:=hg hgc
  obtain ⟨r,hr,h1,h2⟩:=look_there L hsm l m TT[a] hG NN[b] M hM K[q]
  refine Ev.bind (get_val L hsm l m TT[a] hG K[q] NN[b] r hr) (Ev.if_pos rfl (Ev.bind0 (ref_Key_eq K[q]) ?_))
  rw [hgc] at same
  cases hk:keyOK K[q] with
  | false=>
   rw [if_neg (by simp)]
   exact Ev.step (fun k=>by simp only [Fa.j11];rfl) (Ev.if_neg (by simp) (same ⟨#[]⟩ 1))
  | true=>
   rw [if_pos rfl]
   refine Ev.step (fun k=>by simp only [Fa.j11];rfl) (Ev.if_pos (by first|rfl|trivial) (Ev.if_pos (by omega) (Ev.if_pos (by omega) ?_)))
   rw [erd]
   rcases at_row M hM.asc hlen K[q] with ⟨row,hrow,hkey,j,hj,ej,hat⟩|⟨hno,hat⟩
   ·refine Ev.bind hat (Ev.if_pos (by omega) (Ev.if_pos (by omega) (Ev.if_pos (by omega) ?_)))
    rw [rdr_at M j hj,ej]
    have hr2:r.2=true:=by
     cases h:r.2 with
     | true=>rfl
     | false=>exact absurd hkey (h2 h row hrow)
    obtain ⟨row2,hrow2,hkey2,hval⟩:=h1 hr2
    have e:row2=row:=by
     obtain ⟨x,hx,rfl⟩:=List.mem_iff_getElem.1 hrow2
     obtain ⟨y,hy,rfl⟩:=List.mem_iff_getElem.1 hrow
     have asc:=List.pairwise_iff_getElem.1 hM.asc
     rcases Nat.lt_trichotomy x y with h|h|h
     ·exact absurd (hkey2.trans hkey.symm) (HMerge.less_ne (asc x y hx hy h))
     ·subst h;rfl
     ·exact absurd (hkey.trans hkey2.symm) (HMerge.less_ne (asc y x hy hx h))
    rw [if_pos hr2,← hval,e]
    exact same row.f1 0
   ·refine Ev.bind hat (Ev.if_neg (by omega) ?_)
    have hr2:r.2=false:=by
     cases h:r.2 with
     | false=>rfl
     | true=>
      obtain ⟨row,hrow,hkey,_⟩:=h1 h
      exact absurd hkey (hno row hrow)
    rw [if_neg (by simp [hr2])]
    exact same ⟨#[]⟩ 3
theorem keys_same (next:Ev (fun k=>Fa.l4 k L tb PP TT NN (i:Int) may (a:Int) (b:Int) g M 0 L P T K R N l m) true) (d:Nat):∀ q,q + d=6→Ev (fun k=>Fa.l3 k L tb PP TT NN (i:Int) may (a:Int) (b:Int) g M (q:Int) L P T K R N l m) true:=by
 have stop:∀ q:Int,Ev (fun k=>Fa.j10 k L tb PP TT NN (i:Int) may (a:Int) (b:Int) g M q false L P T K R N l m) true:=fun q=>Ev.step (fun k=>by simp only [Fa.j10];rfl) (Ev.if_neg (by simp) next)
 induction d with
 | zero=>
  intro q hq
  refine Ev.step (fun k=>by simp only [Fa.l3];rfl) (Ev.iff (fun _=>?_) (fun _=>stop _))
  rw [decide_eq_false (by omega)]
  exact stop _
 | succ d ih=>
  intro q hq
  refine Ev.step (fun k=>by simp only [Fa.l3];rfl) (Ev.iff (fun hlt=>?_) (fun _=>stop _))
  rw [decide_eq_true (by omega)]
  exact key_same L P T K R N tb PP TT NN i may a b g M l m hsm ha hb hi4 ha5 hb4 hg hg2 q (by omega) (by omega) (ih (q + 1) (by omega))
theorem range_same (c:Nat) (hc:c<R.length) (hc4:c<4) (z:Nat) (hz:z<2) (next:Ev (fun k=>Fa.l5 k L tb PP TT NN (i:Int) may (a:Int) (b:Int) g M (c:Int) ((z + 1:Nat):Int) L P T K R N l m) true):Ev (fun k=>Fa.l5 k L tb PP TT NN (i:Int) may (a:Int) (b:Int) g M (c:Int) (z:Int) L P T K R N l m) true:=by
 have same:∀ (o:List Rw) (e:Int),o.length≤100→Ev (fun k=>Fa.j18 k L tb PP TT NN (i:Int) may (a:Int) (b:Int) g M (c:Int) (z:Int) o e e o L P T K R N l m) true:=fun o e ho=>by
  obtain ⟨s,hs⟩:=spoil_ends o (by omega)
  refine Ev.step (fun k=>by simp only [Fa.j18];rfl) (Ev.bind0 (num_eq e) (Ev.if_pos rfl (Ev.bind (EqRows_same o (by omega)) ?_)))
  refine Ev.step (fun k=>by simp only [Fa.j19];rfl) (Ev.if_neg (by simp) (Ev.bind hs ?_))
  rw [wrap_succ z (by omega)]
  exact next
 have no:∀ mv,Ev (fun k=>Fa.j17 k L tb PP TT NN (i:Int) may (a:Int) (b:Int) g M (c:Int) (z:Int) mv ([]:List Rw) 1 1 ([]:List Rw) false L P T K R N l m) true:=fun mv=>Ev.step (fun k=>by simp only [Fa.j17];rfl) (Ev.if_neg (by simp) (same [] 1 (by simp)))
 have e1:wrap64 ((c:Int) + (b:Int))=((c + b:Nat):Int):=by unfold wrap64;omega
 have e2:Int.tmod ((c + b:Nat):Int) 3=(((c + b) % 3:Nat):Int):=rfl
 have e3:(c + b) % 3<3:=Nat.mod_lt _ (by omega)
 refine Ev.step (fun k=>by simp only [Fa.l5];rfl) (Ev.if_pos (by omega) (Ev.bind0 rfl ?_))
 rw [e1,e2]
 refine Ev.if_pos (by omega) (Ev.if_pos (by simp only [List.length_cons,List.length_nil];omega) (Ev.if_pos (by omega) (Ev.if_pos (by omega) (Ev.if_pos (by omega) (Ev.if_pos (by omega) (Ev.if_pos (by omega) (Ev.if_pos (by omega) ?_)))))))
 obtain ⟨x,hx⟩:∃ x,R[c]=x:=⟨_,rfl⟩
 rw [rdn_at TT a ha,rdn_at NN b hb,rdg_at R c hc,hx]
 generalize rd ([1073741824,2, -1]:List Int) (((c + b) % 3:Nat):Int)=mv
 generalize hback:((z:Int) == 1)=back
 cases hgc:g with
 | false=>
  rw [hgc] at no
  exact Ev.bind (scan_no L hsm l m TT[a] x.f0 x.f1 x.f2 NN[b] mv back (fun h=>hg2 hgc h.1)) (Ev.if_neg (by simp) (no mv))
 | true=>
  obtain ⟨hG,hM,hlen⟩:=hg hgc
  rw [hgc] at no same
  cases hask:asksOK x.f0 x.f1 x.f2 mv with
  | false=>
   refine Ev.bind (scan_no L hsm l m TT[a] x.f0 x.f1 x.f2 NN[b] mv back (fun h=>by rw [hask] at h;cases h.2)) (Ev.if_pos rfl (Ev.bind (refRange_ev x.f0 x.f1 x.f2) ?_))
   cases hrg:rangeOK x.f0 x.f1 x.f2 with
   | false=>exact Ev.if_neg (by simp) (no mv)
   | true=>
    refine Ev.if_pos rfl (Ev.bind0 (num_val mv 1073741824) ?_)
    have e4:decide (0≤mv∧mv≤1073741824)=false:=by
     unfold asksOK at hask
     rw [hrg,Bool.true_and] at hask
     exact hask
    rw [e4]
    exact no mv
  | true=>
   have hask2:=hask
   unfold asksOK at hask2
   simp only [Bool.and_eq_true,decide_eq_true_eq] at hask2
   refine Ev.bind (scan_val L hsm l m TT[a] hG x.f0 x.f1 x.f2 NN[b] mv back hask hask2.2.1 M hlen hM) (Ev.if_pos rfl (Ev.bind (refRange_ev x.f0 x.f1 x.f2) ?_))
   rw [hask2.1]
   refine Ev.if_pos rfl (Ev.bind0 (num_val mv 1073741824) ?_)
   rw [decide_eq_true hask2.2]
   refine Ev.step (fun k=>by simp only [Fa.j17];rfl) (Ev.if_pos (by first|rfl|trivial) (Ev.if_pos (by omega) (Ev.if_pos (by omega) ?_)))
   rw [rdg_at R c hc,hx,hback]
   refine Ev.bind (refRows_ev M x.f0 x.f1 x.f2 back mv (by omega)) (same _ 0 ?_)
   have:=someOf_len M x.f0 x.f1 x.f2 mv back
   omega
theorem ranges_same (next:Ev (fun k=>Fa.l2 k L tb PP TT NN (i:Int) may (a:Int) ((b + 1:Nat):Int) L P T K R N l m) true) (d:Nat):∀ c,c + d=4→Ev (fun k=>Fa.l4 k L tb PP TT NN (i:Int) may (a:Int) (b:Int) g M (c:Int) L P T K R N l m) true:=by
 have stop:∀ c:Int,Ev (fun k=>Fa.j15 k L tb PP TT NN (i:Int) may (a:Int) (b:Int) g M c false L P T K R N l m) true:=fun c=>by
  refine Ev.step (fun k=>by simp only [Fa.j15];rfl) (Ev.if_neg (by simp) ?_)
  rw [wrap_succ b (by omega)]
  exact next
 induction d with
 | zero=>
  intro c hc
  refine Ev.step (fun k=>by simp only [Fa.l4];rfl) (Ev.iff (fun _=>?_) (fun _=>stop _))
  rw [decide_eq_false (by omega)]
  exact stop _
 | succ d ih=>
  intro c hc
  refine Ev.step (fun k=>by simp only [Fa.l4];rfl) (Ev.iff (fun hlt=>?_) (fun _=>stop _))
  rw [decide_eq_true (by omega)]
  refine Ev.step (fun k=>by simp only [Fa.j15];rfl) (Ev.if_pos (by first|rfl|trivial) ?_)
  have s:=range_same L P T K R N tb PP TT NN i may a b g M l m hsm ha hb hi4 ha5 hb4 hg hg2 c (by omega) (by omega)
  refine s 0 (by omega) (s 1 (by omega) ?_)
  refine Ev.step (fun k=>by simp only [Fa.l5];rfl) (Ev.if_neg (by simp) ?_)
  rw [wrap_succ c (by omega)]
  exact ih (c + 1) (by omega)
theorem reads_same (next:Ev (fun k=>Fa.l2 k L tb PP TT NN (i:Int) may (a:Int) ((b + 1:Nat):Int) L P T K R N l m) true):Ev (fun k=>Fa.l3 k L tb PP TT NN (i:Int) may (a:Int) (b:Int) g M 0 L P T K R N l m) true:=
 keys_same L P T K R N tb PP TT NN i may a b g M l m hsm ha hb hi4 ha5 hb4 hg hg2 (ranges_same L P T K R N tb PP TT NN i may a b g M l m hsm ha hb hi4 ha5 hb4 hg hg2 next 4 0 rfl) 6 0 rfl
end
section
variable (i:Nat) (may:Bool) (l:List Wr) (m:List Int) (hsm:∀ t∈L,TbSmall t) (hL:L.length≤5864062014634) (hi:i<PP.length) (hi4:i<4) (hlm:PP[i]=⟨l,m⟩) (hmay:may=true↔TsOK L∧May l m)
include hsm hL hi hi4 hlm hmay
open Classical in
theorem l2_ev (a:Nat) (ha:a<TT.length) (ha5:a<5) (next:Ev (fun k=>Fa.l1 k L tb PP TT NN (i:Int) may ((a + 1:Nat):Int) L P T K R N l m) true) (d:Nat):∀ b,b + d=4→Ev (fun k=>Fa.l2 k L tb PP TT NN (i:Int) may (a:Int) (b:Int) L P T K R N l m) true:=by
 have stop:∀ b:Int,Ev (fun k=>Fa.j6 k L tb PP TT NN (i:Int) may (a:Int) b false L P T K R N l m) true:=fun b=>by
  refine Ev.step (fun k=>by simp only [Fa.j6];rfl) (Ev.if_neg (by simp) ?_)
  rw [wrap_succ a (by omega)]
  exact next
 induction d with
 | zero=>
  intro b hb
  refine Ev.step (fun k=>by simp only [Fa.l2];rfl) (Ev.iff (fun _=>?_) (fun _=>stop _))
  rw [decide_eq_false (by omega)]
  exact stop _
 | succ d ih=>
  intro b hb
  refine Ev.step (fun k=>by simp only [Fa.l2];rfl) (Ev.iff (fun hlt=>?_) (fun _=>stop _))
  have hb2:b<NN.length:=by omega
  have on:=ih (b + 1) (by omega)
  rw [decide_eq_true (by omega)]
  have no:¬ Good L l m TT[a]→Ev (fun k=>Fa.j7 k L tb PP TT NN (i:Int) may (a:Int) (b:Int) false L P T K R N l m) true:=fun hno=>by
   refine Ev.step (fun k=>by simp only [Fa.j7];rfl) (Ev.if_neg (by simp) ?_)
   refine Ev.step (fun k=>by simp only [Fa.j8];rfl) ?_
   exact reads_same L P T K R N tb PP TT NN i may a b false [] l m hsm ha hb2 hi4 ha5 (by omega) (fun h=>by cases h) (fun _=>hno) on
  refine Ev.step (fun k=>by simp only [Fa.j6];rfl) (Ev.if_pos (by first|rfl|trivial) ?_)
  by_cases hm:TsOK L∧May l m
  ·refine Ev.if_pos (hmay.2 hm) (Ev.if_pos (by omega) (Ev.if_pos (by omega) ?_))
   rw [rdn_at TT a ha]
   refine Ev.bind0 (num_val TT[a] _) ?_
   have e:wrap64 ((L.length:Int) - 1)=(L.length:Int) - 1:=by unfold wrap64;omega
   rw [e]
   by_cases ht:0≤TT[a]∧TT[a]≤(L.length:Int) - 1
   ·rw [decide_eq_true ht]
    have hG:Good L l m TT[a]:=⟨hm,ht.1,by omega⟩
    obtain ⟨M,hM,hlen,hOwn⟩:=rows_there L hsm l m TT[a] hG NN[b]
    refine Ev.step (fun k=>by simp only [Fa.j7];rfl) (Ev.if_pos (by first|rfl|trivial) (Ev.if_pos (by omega) (Ev.if_pos (by omega) ?_)))
    rw [rdn_at TT a ha,rdn_at NN b hb2]
    refine Ev.if_pos (by omega) (Ev.if_pos (by omega) (Ev.if_pos (by omega) (Ev.if_pos (by omega) ?_)))
    obtain ⟨j,hj⟩:∃ j:Nat,TT[a]=(j:Int):=⟨(TT[a]).toNat,by omega⟩
    have hjl:j<L.length:=by omega
    have hts:=hsm L[j] (List.getElem_mem hjl)
    have hR:Ev (fun k=>Fz.f k (rd_T43 L TT[a]).f0 NN[b]) (rowsT (rd_T43 L TT[a]).f0 NN[b]):=by
     rw [hj,rdb_at L j hjl]
     exact refMap_ev (L[j]).f0 NN[b] (by have:=hts.1;omega) (fun c hc=>by have:=hts.2 c hc;omega)
    refine Ev.bind hR (Ev.if_pos (by omega) (Ev.if_pos (by omega) ?_))
    rw [rdp_at PP i hi,hlm]
    refine Ev.bind hOwn ?_
    refine Ev.step (fun k=>by simp only [Fa.j8];rfl) ?_
    exact reads_same L P T K R N tb PP TT NN i may a b true M l m hsm ha hb2 hi4 ha5 (by omega) (fun _=>⟨hG,hM,hlen⟩) (fun h=>by cases h) on
   ·rw [decide_eq_false ht]
    exact no (fun h=>ht ⟨h.2.1,by have:=h.2.2;omega⟩)
  ·exact Ev.if_neg (fun h=>hm (hmay.1 h)) (no (fun h=>hm h.1))
theorem l1_ev (hpl:l.length≤2932031007317) (hpm:m.length≤17592186043904) (next:Ev (fun k=>Fa.l0 k L tb PP TT NN ((i + 1:Nat):Int) L P T K R N) true) (d:Nat):∀ a,a + d=5→Ev (fun k=>Fa.l1 k L tb PP TT NN (i:Int) may (a:Int) L P T K R N l m) true:=by
 have stop:∀ a:Int,Ev (fun k=>Fa.j4 k L tb PP TT NN (i:Int) may a false L P T K R N l m) true:=fun a=>by
  refine Ev.step (fun k=>by simp only [Fa.j4];rfl) (Ev.if_neg (by simp) (Ev.if_pos (by omega) (Ev.if_pos (by omega) ?_)))
  rw [rdp_at PP i hi,hlm,wrap_succ i (by omega)]
  exact Ev.bind (EqPend_same l m (by omega) (by omega)) (Ev.if_pos rfl next)
 induction d with
 | zero=>
  intro a ha
  refine Ev.step (fun k=>by simp only [Fa.l1];rfl) (Ev.iff (fun _=>?_) (fun _=>stop _))
  rw [decide_eq_false (by omega)]
  exact stop _
 | succ d ih=>
  intro a ha
  refine Ev.step (fun k=>by simp only [Fa.l1];rfl) (Ev.iff (fun hlt=>?_) (fun _=>stop _))
  rw [decide_eq_true (by omega)]
  exact Ev.step (fun k=>by simp only [Fa.j4];rfl) (Ev.if_pos (by first|rfl|trivial) (l2_ev L P T K R N tb PP TT NN i may l m hsm hL hi hi4 hlm hmay a (by omega) (by omega) (ih (a + 1) (by omega)) 4 0 rfl))
end
theorem l0_ev (htb:tb=true↔TsOK L) (hsm:∀ t∈L,TbSmall t) (hL:L.length≤5864062014634) (hp:∀ p∈PP,PdIn p) (d:Nat):∀ i,i + d=4→Ev (fun k=>Fa.l0 k L tb PP TT NN (i:Int) L P T K R N) true:=by
 have stop:∀ i:Int,Ev (fun k=>Fa.j1 k L tb PP TT NN i false L P T K R N) true:=fun i=>Ev.step (fun k=>by simp only [Fa.j1];rfl) (Ev.if_neg (by simp) (Ev.bind (EqTables_same L hsm hL) (Ev.if_pos rfl (Ev.bind wakes_true (Ev.now _)))))
 induction d with
 | zero=>
  intro i hi
  refine Ev.step (fun k=>by simp only [Fa.l0];rfl) (Ev.iff (fun _=>?_) (fun _=>stop _))
  rw [decide_eq_false (by omega)]
  exact stop _
 | succ d ih=>
  intro i hi
  refine Ev.step (fun k=>by simp only [Fa.l0];rfl) (Ev.iff (fun hlt=>?_) (fun _=>stop _))
  have hi2:i<PP.length:=by omega
  have hpi:=hp PP[i] (List.getElem_mem hi2)
  have on:=ih (i + 1) (by omega)
  rw [decide_eq_true (by omega)]
  refine Ev.step (fun k=>by simp only [Fa.j1];rfl) (Ev.if_pos (by first|rfl|trivial) (Ev.if_pos (by omega) (Ev.if_pos (by omega) ?_)))
  rw [rdp_at PP i hi2]
  refine Ev.bind (copyP_ev PP[i] hpi) ?_
  have go:∀ may:Bool,(may=true↔TsOK L∧May (PP[i]).f0 (PP[i]).f1)→Ev (fun k=>Fa.j2 k L tb PP TT NN (i:Int) may L P T K R N (PP[i]).f0 (PP[i]).f1) true:=fun may hmay=>
   Ev.step (fun k=>by simp only [Fa.j2];rfl) (l1_ev L P T K R N tb PP TT NN i may (PP[i]).f0 (PP[i]).f1 hsm hL hi2 (by omega) rfl hmay hpi.ll hpi.lm on 5 0 rfl)
  by_cases ht:TsOK L
  ·refine Ev.if_pos (htb.2 ht) (Ev.bind (ref_ev (PP[i]).f0 (PP[i]).f1) (go _ ?_))
   classical
   rw [decide_eq_true_eq]
   exact ⟨fun h=>⟨ht,h⟩,fun h=>h.2⟩
  ·exact Ev.if_neg (fun h=>ht (htb.1 h)) (go false ⟨fun h=>(by cases h),fun h=>absurd h.1 ht⟩)
theorem reads_ev (hL:L.length≤5864062014634) (hT:∀ t∈L,TbIn t) (hP:P.length≤2932031007317) (hp:∀ p∈P,PdIn p) (hTl:T.length≤17592186043904) (hK:K.length≤10000000000000) (hk:∀ t∈K,t.size≤140737488351232) (hR:R.length≤10000000000000) (hN:N.length≤17592186043904) :
 Ev (fun k=>Fa.f k L P T K R N) true:=by
 classical
 obtain ⟨hv,hb,hs⟩:=heavy_ev L P T K R N (by omega) hT (by omega) hp (by omega) hK hk hR (by omega)
 unfold Fa.f
 refine Ev.bind hb ?_
 cases hv with
 | true=>exact Ev.if_pos (by first|rfl|trivial) (Ev.now _)
 | false=>
  have hsm:=hs rfl
  refine Ev.if_neg (by simp) (Ev.bind (copyTs_ev L hsm hL) (Ev.bind (tables_val L hsm (by omega)) (Ev.bind0 rfl (Ev.if_pos (by simp only [List.length_singleton];omega) (Ev.bind0 rfl (Ev.if_pos (by simp only [List.length_cons,List.length_nil];omega) (Ev.bind0 rfl (Ev.if_pos (by simp only [List.length_cons,List.length_nil];omega) ?_))))))))
  refine l0_ev L P T K R N _ _ _ _ (by rw [decide_eq_true_eq]) hsm hL (fun p hp2=>?_) 4 0 rfl
  rcases List.mem_append.1 hp2 with h|h
  ·rw [List.mem_singleton] at h
   subst h
   exact ⟨by simp,by simp,fun t ht=>by cases ht⟩
  ·exact hp p h
end
end Go.Proofs.YtbaecdcfefmcgaaGreat.HView
namespace Go.Proofs.YtbaecdcfefmcgaaGreat.Pure
open Go.RowKit Go.Proofs.YtbaecdcfefmcgaaGreat.HView Go.Proofs.YtbaecdcfefmcgaaGreatW.PrintWords
theorem ViewReads:OpViewReads.Pure:=by
 intro L P T K R N hL hP hT hK hR hN
 refine Ev.rounds (reads_ev L P T K R N (by have:=hL.2.1;omega) (fun t ht=>?_) (by have:=hP.2.1;omega) (fun p hp=>?_) (by have:=hT.2.1;omega) (by have:=hK.2.1;omega) (fun t ht=>hK.2.2 t ht) (by have:=hR.2.1;omega) (by have:=hN.2.1;omega))
 ·have h:=hL.2.2 t ht
  refine ⟨by have:=h.2.1;omega,fun c hc=>?_⟩
  have h2:=h.2.2 c hc
  exact ⟨by have:=h2.2.2.1;omega,h2.1,fun v hv=>(h2.2.2.2 v hv).2.1⟩
 ·have h:=hP.2.2 p hp
  exact ⟨by have:=h.1.2.1;omega,by have:=h.2.2.1;omega,fun w hw=>⟨(h.1.2.2 w hw).2.1,(h.1.2.2 w hw).2.2.1⟩⟩
end Go.Proofs.YtbaecdcfefmcgaaGreat.Pure
