import Derived.Test.YtbaecdcfefmcgaaGreatPVrdx0
import Derived.Test.YtbaecdcfefmcgaaGreatPVrdx7
import Derived.Test.YtbaecdcfefmcgaaGreatPVrdx8
import Derived.Test.YtbaecdcfefmcgaaGreatPVrdx9
import Derived.Test.YtbaecdcfefmcgaaGreatPVrdx10
import Derived.Test.YtbaecdcfefmcgaaGreatPVrdx14
import Derived.Test.YtbaecdcfefmcgaaGreatPVrdx15
import Derived.Test.YtbaecdcfefmcgaaGreatPVrdx17
import Derived.Test.YtbaecdcfefmcgaaGreatPVrdx19
import Derived.Test.YtbaecdcfefmcgaaGreatPVrdx24
import Derived.Test.YtbaecdcfefmcgaaGreatPVrdx21
namespace Go.Proofs.YtbaecdcfefmcgaaGreat.PVrd
open Go.RowKit Go.Proofs.YtbaecdcfefmcgaaGreatW.PrintWords Go.Proofs.YtbaecdcfefmcgaaGreatW.PrintLast Go.Proofs.YtbaecdcfefmcgaaGreatW.PrintMore
attribute [local go_sem] max2_int min2_int max_two min_two max_three min_three max_four min_four
set_option linter.unusedVariables false
set_option linter.unusedSimpArgs false
mutual
def Fa.l0:Nat→List (S43)→Bool→List (S34)→List Int→List Int→Int→List (S43)→List (S34)→List Int→List ByteArray→List (S55)→List Int→Option (Bool)
 | 0,_,_,_,_,_,_,_,_,_,_,_,_=>none
 | k + 1,c,d,b,e,f,a,g,h,i,j,l,m=>if a<(b.length:Int) then (Fa.j1 k c d b e f a (decide (a<4)) g h i j l m) else (Fa.j1 k c d b e f a false g h i j l m)
def Fa.j1:Nat→List (S43)→Bool→List (S34)→List Int→List Int→Int→Bool→List (S43)→List (S34)→List Int→List ByteArray→List (S55)→List Int→Option (Bool)
 | 0,_,_,_,_,_,_,_,_,_,_,_,_,_=>none
 | k + 1,d,e,b,h,i,a,p,g,j,l,m,n,o=>if p=true then (if 0≤a then (if a<(b.length:Int) then ((Gn.f k ((rd_T34 b a).f0) ((rd_T34 b a).f1)).bind fun c=>(if e=true then ((Fd.f k ((rd_T34 b a).f0) ((rd_T34 b a).f1)).bind fun q=>(Fa.j2 k d e b h i a q g j l m n o c.1 c.2)) else (Fa.j2 k d e b h i a false g j l m n o c.1 c.2))) else (none)) else (none)) else ((Fx.f k d g).bind fun r=>(if r=true then ((Gk.f k).bind fun s=>(some s)) else (some false)))
def Fa.j2:Nat→List (S43)→Bool→List (S34)→List Int→List Int→Int→Bool→List (S43)→List (S34)→List Int→List ByteArray→List (S55)→List Int→List (S72)→List Int→Option (Bool)
 | 0,_,_,_,_,_,_,_,_,_,_,_,_,_,_,_=>none
 | k + 1,a,b,c,d,e,f,g,h,i,j,l,m,n,o,p=>Fa.l1 k a b c d e f g 0 h i j l m n o p
def Fa.l1:Nat→List (S43)→Bool→List (S34)→List Int→List Int→Int→Bool→Int→List (S43)→List (S34)→List Int→List ByteArray→List (S55)→List Int→List (S72)→List Int→Option (Bool)
 | 0,_,_,_,_,_,_,_,_,_,_,_,_,_,_,_,_=>none
 | k + 1,c,d,e,b,f,g,h,a,i,j,l,m,n,o,p,q=>if a<(b.length:Int) then (Fa.j4 k c d e b f g h a (decide (a<5)) i j l m n o p q) else (Fa.j4 k c d e b f g h a false i j l m n o p q)
def Fa.j4:Nat→List (S43)→Bool→List (S34)→List Int→List Int→Int→Bool→Int→Bool→List (S43)→List (S34)→List Int→List ByteArray→List (S55)→List Int→List (S72)→List Int→Option (Bool)
 | 0,_,_,_,_,_,_,_,_,_,_,_,_,_,_,_,_,_=>none
 | k + 1,c,d,b,e,g,a,q,r,s,h,i,j,l,m,n,o,p=>if s=true then (Fa.l2 k c d b e g a q r 0 h i j l m n o p) else (if 0≤a then (if a<(b.length:Int) then ((Gf.f k o p ((rd_T34 b a).f0) ((rd_T34 b a).f1)).bind fun t=>(if t=true then (Fa.l0 k c d b e g (wrap64 (a + 1)) h i j l m n) else (some false))) else (none)) else (none))
def Fa.l2:Nat→List (S43)→Bool→List (S34)→List Int→List Int→Int→Bool→Int→Int→List (S43)→List (S34)→List Int→List ByteArray→List (S55)→List Int→List (S72)→List Int→Option (Bool)
 | 0,_,_,_,_,_,_,_,_,_,_,_,_,_,_,_,_,_=>none
 | k + 1,c,d,e,f,b,g,h,i,a,j,l,m,n,o,p,q,r=>if a<(b.length:Int) then (Fa.j6 k c d e f b g h i a (decide (a<4)) j l m n o p q r) else (Fa.j6 k c d e f b g h i a false j l m n o p q r)
def Fa.j6:Nat→List (S43)→Bool→List (S34)→List Int→List Int→Int→Bool→Int→Int→Bool→List (S43)→List (S34)→List Int→List ByteArray→List (S55)→List Int→List (S72)→List Int→Option (Bool)
 | 0,_,_,_,_,_,_,_,_,_,_,_,_,_,_,_,_,_,_=>none
 | k + 1,e,g,h,b,i,j,c,a,s,t,d,l,m,n,o,p,q,r=>if t=true then (if c=true then (if 0≤a then (if a<(b.length:Int) then ((FJ.f (rd b a) (wrap64 ((d.length:Int) - 1))).bind fun u=>(Fa.j7 k e g h b i j c a s u d l m n o p q r)) else (none)) else (none)) else (Fa.j7 k e g h b i j c a s false d l m n o p q r)) else (Fa.l1 k e g h b i j c (wrap64 (a + 1)) d l m n o p q r)
def Fa.j7:Nat→List (S43)→Bool→List (S34)→List Int→List Int→Int→Bool→Int→Int→Bool→List (S43)→List (S34)→List Int→List ByteArray→List (S55)→List Int→List (S72)→List Int→Option (Bool)
 | 0,_,_,_,_,_,_,_,_,_,_,_,_,_,_,_,_,_,_=>none
 | k + 1,j,l,d,b,g,c,m,a,e,i,h,n,o,p,q,r,s,t=>if i=true then (if 0≤a then (if a<(b.length:Int) then (if 0≤(rd b a) then (if (rd b a)<(h.length:Int) then (if 0≤e then (if e<(g.length:Int) then ((Fz.f k ((rd_T43 h (rd b a)).f0) (rd g e)).bind fun u=>(if 0≤c then (if c<(d.length:Int) then ((Fr.f k u ((rd_T34 d c).f0) ((rd_T34 d c).f1) (rd b a)).bind fun v=>(Fa.j8 k j l d b g c m a e i v h n o p q r s t)) else (none)) else (none))) else (none)) else (none)) else (none)) else (none)) else (none)) else (none)) else (Fa.j8 k j l d b g c m a e i ([]:List (S50)) h n o p q r s t)
def Fa.j8:Nat→List (S43)→Bool→List (S34)→List Int→List Int→Int→Bool→Int→Int→Bool→List (S50)→List (S43)→List (S34)→List Int→List ByteArray→List (S55)→List Int→List (S72)→List Int→Option (Bool)
 | 0,_,_,_,_,_,_,_,_,_,_,_,_,_,_,_,_,_,_,_=>none
 | k + 1,a,b,c,d,e,f,g,h,i,j,l,m,n,o,p,q,r,s,t=>Fa.l3 k a b c d e f g h i j l 0 m n o p q r s t
def Fa.l3:Nat→List (S43)→Bool→List (S34)→List Int→List Int→Int→Bool→Int→Int→Bool→List (S50)→Int→List (S43)→List (S34)→List Int→List ByteArray→List (S55)→List Int→List (S72)→List Int→Option (Bool)
 | 0,_,_,_,_,_,_,_,_,_,_,_,_,_,_,_,_,_,_,_,_=>none
 | k + 1,c,d,e,f,g,h,i,j,l,m,n,a,o,p,q,b,r,s,t,u=>if a<(b.length:Int) then (Fa.j10 k c d e f g h i j l m n a (decide (a<6)) o p q b r s t u) else (Fa.j10 k c d e f g h i j l m n a false o p q b r s t u)
def Fa.j10:Nat→List (S43)→Bool→List (S34)→List Int→List Int→Int→Bool→Int→Int→Bool→List (S50)→Int→Bool→List (S43)→List (S34)→List Int→List ByteArray→List (S55)→List Int→List (S72)→List Int→Option (Bool)
 | 0,_,_,_,_,_,_,_,_,_,_,_,_,_,_,_,_,_,_,_,_,_=>none
 | k + 1,h,n,o,e,g,p,q,a,b,i,r,c,x,s,t,u,d,v,w,j,l=>if x=true then (if 0≤a then (if a<(e.length:Int) then (if 0≤c then (if c<(d.length:Int) then (if 0≤b then (if b<(g.length:Int) then ((Fq.f k h j l (rd e a) (rdOf ByteArray.empty d c) (rd g b)).bind fun m=>(if i=true then ((F9.f (rdOf ByteArray.empty d c)).bind fun y=>(Fa.j11 k h n o e g p q a b i r c m.1 m.2 1 (⟨#[]⟩:ByteArray) y s t u d v w j l)) else (Fa.j11 k h n o e g p q a b i r c m.1 m.2 1 (⟨#[]⟩:ByteArray) false s t u d v w j l))) else (none)) else (none)) else (none)) else (none)) else (none)) else (none)) else (Fa.l4 k h n o e g p q a b i r 0 s t u d v w j l)
def Fa.j11:Nat→List (S43)→Bool→List (S34)→List Int→List Int→Int→Bool→Int→Int→Bool→List (S50)→Int→ByteArray→Int→Int→ByteArray→Bool→List (S43)→List (S34)→List Int→List ByteArray→List (S55)→List Int→List (S72)→List Int→Option (Bool)
 | 0,_,_,_,_,_,_,_,_,_,_,_,_,_,_,_,_,_,_,_,_,_,_,_,_,_=>none
 | k + 1,e,g,h,i,j,l,m,n,o,p,a,b,q,r,aa,z,ab,s,t,u,c,v,w,x,y=>if ab=true then (if 0≤b then (if b<(c.length:Int) then ((Fy.f k a (rdOf ByteArray.empty c b)).bind fun d=>(if d≥0 then (if 0≤d then (if d<(a.length:Int) then (Fa.j12 k e g h i j l m n o p a b q r 0 ((rd_T50 a d).f1) s t u c v w x y) else (none)) else (none)) else (Fa.j12 k e g h i j l m n o p a b q r 3 z s t u c v w x y))) else (none)) else (none)) else (Fa.j12 k e g h i j l m n o p a b q r aa z s t u c v w x y)
def Fa.j12:Nat→List (S43)→Bool→List (S34)→List Int→List Int→Int→Bool→Int→Int→Bool→List (S50)→Int→ByteArray→Int→Int→ByteArray→List (S43)→List (S34)→List Int→List ByteArray→List (S55)→List Int→List (S72)→List Int→Option (Bool)
 | 0,_,_,_,_,_,_,_,_,_,_,_,_,_,_,_,_,_,_,_,_,_,_,_,_=>none
 | k + 1,a,b,c,d,e,g,h,i,j,l,m,n,w,x,y,z,o,p,q,r,s,t,u,v=>(F0.f x).bind fun aa=>(if aa=y then (Fa.j13 k a b c d e g h i j l m n (w.toList != z.toList) o p q r s t u v) else (Fa.j13 k a b c d e g h i j l m n true o p q r s t u v))
def Fa.j13:Nat→List (S43)→Bool→List (S34)→List Int→List Int→Int→Bool→Int→Int→Bool→List (S50)→Int→Bool→List (S43)→List (S34)→List Int→List ByteArray→List (S55)→List Int→List (S72)→List Int→Option (Bool)
 | 0,_,_,_,_,_,_,_,_,_,_,_,_,_,_,_,_,_,_,_,_,_=>none
 | k + 1,a,b,c,d,e,f,g,h,i,j,l,m,n,o,p,q,r,s,t,u,v=>if n=true then (some false) else (Fa.l3 k a b c d e f g h i j l (wrap64 (m + 1)) o p q r s t u v)
def Fa.l4:Nat→List (S43)→Bool→List (S34)→List Int→List Int→Int→Bool→Int→Int→Bool→List (S50)→Int→List (S43)→List (S34)→List Int→List ByteArray→List (S55)→List Int→List (S72)→List Int→Option (Bool)
 | 0,_,_,_,_,_,_,_,_,_,_,_,_,_,_,_,_,_,_,_,_=>none
 | k + 1,c,d,e,f,g,h,i,j,l,m,n,a,o,p,q,r,b,s,t,u=>if a<(b.length:Int) then (Fa.j15 k c d e f g h i j l m n a (decide (a<4)) o p q r b s t u) else (Fa.j15 k c d e f g h i j l m n a false o p q r b s t u)
def Fa.j15:Nat→List (S43)→Bool→List (S34)→List Int→List Int→Int→Bool→Int→Int→Bool→List (S50)→Int→Bool→List (S43)→List (S34)→List Int→List ByteArray→List (S55)→List Int→List (S72)→List Int→Option (Bool)
 | 0,_,_,_,_,_,_,_,_,_,_,_,_,_,_,_,_,_,_,_,_,_=>none
 | k + 1,a,b,c,d,e,f,g,h,i,s,t,u,v,j,l,m,n,o,p,q,r=>if v=true then (Fa.l5 k a b c d e f g h i s t u 0 j l m n o p q r) else (Fa.l2 k a b c d e f g h (wrap64 (i + 1)) j l m n o p q r)
def Fa.l5:Nat→List (S43)→Bool→List (S34)→List Int→List Int→Int→Bool→Int→Int→Bool→List (S50)→Int→Int→List (S43)→List (S34)→List Int→List ByteArray→List (S55)→List Int→List (S72)→List Int→Option (Bool)
 | 0,_,_,_,_,_,_,_,_,_,_,_,_,_,_,_,_,_,_,_,_,_=>none
 | k + 1,j,p,q,e,g,r,s,d,b,l,t,a,m,u,v,w,x,c,y,n,o=>if m<2 then ((some (([1073741824,2,(-1)]:List Int):List Int)).bind fun h=>(if 0≤(Int.tmod (wrap64 (a + b)) 3) then (if (Int.tmod (wrap64 (a + b)) 3)<(h.length:Int) then (if 0≤d then (if d<(e.length:Int) then (if 0≤a then (if a<(c.length:Int) then (if 0≤b then (if b<(g.length:Int) then ((Fs.f k j n o (rd e d) ((rd_T55 c a).f0) ((rd_T55 c a).f1) ((rd_T55 c a).f2) (rd g b) (rd h (Int.tmod (wrap64 (a + b)) 3)) (m == 1)).bind fun i=>(if l=true then ((FH.f k ((rd_T55 c a).f0) ((rd_T55 c a).f1) ((rd_T55 c a).f2)).bind fun z=>(if z=true then ((FJ.f (rd h (Int.tmod (wrap64 (a + b)) 3)) 1073741824).bind fun aa=>(Fa.j17 k j p q e g r s d b l t a m (rd h (Int.tmod (wrap64 (a + b)) 3)) i.1 i.2 1 ([]:List (S50)) aa u v w x c y n o)) else (Fa.j17 k j p q e g r s d b l t a m (rd h (Int.tmod (wrap64 (a + b)) 3)) i.1 i.2 1 ([]:List (S50)) false u v w x c y n o))) else (Fa.j17 k j p q e g r s d b l t a m (rd h (Int.tmod (wrap64 (a + b)) 3)) i.1 i.2 1 ([]:List (S50)) false u v w x c y n o))) else (none)) else (none)) else (none)) else (none)) else (none)) else (none)) else (none)) else (none))) else (Fa.l4 k j p q e g r s d b l t (wrap64 (a + 1)) u v w x c y n o)
def Fa.j17:Nat→List (S43)→Bool→List (S34)→List Int→List Int→Int→Bool→Int→Int→Bool→List (S50)→Int→Int→Int→List (S50)→Int→Int→List (S50)→Bool→List (S43)→List (S34)→List Int→List ByteArray→List (S55)→List Int→List (S72)→List Int→Option (Bool)
 | 0,_,_,_,_,_,_,_,_,_,_,_,_,_,_,_,_,_,_,_,_,_,_,_,_,_,_,_=>none
 | k + 1,e,g,h,i,j,l,m,n,o,p,c,a,d,z,q,r,aa,ab,ac,s,t,u,v,b,w,x,y=>if ac=true then (if 0≤a then (if a<(b.length:Int) then ((Ff.f k c ((rd_T55 b a).f0) ((rd_T55 b a).f1) ((rd_T55 b a).f2) z (d == 1)).bind fun ad=>(Fa.j18 k e g h i j l m n o p c a d q r 0 ad s t u v b w x y)) else (none)) else (none)) else (Fa.j18 k e g h i j l m n o p c a d q r aa ab s t u v b w x y)
def Fa.j18:Nat→List (S43)→Bool→List (S34)→List Int→List Int→Int→Bool→Int→Int→Bool→List (S50)→Int→Int→List (S50)→Int→Int→List (S50)→List (S43)→List (S34)→List Int→List ByteArray→List (S55)→List Int→List (S72)→List Int→Option (Bool)
 | 0,_,_,_,_,_,_,_,_,_,_,_,_,_,_,_,_,_,_,_,_,_,_,_,_,_=>none
 | k + 1,b,c,d,e,g,h,i,j,l,m,n,o,p,a,y,z,aa,q,r,s,t,u,v,w,x=>(F0.f y).bind fun ab=>(if ab=z then ((FQ.f k a aa).bind fun ac=>(Fa.j19 k b c d e g h i j l m n o p a (!ac) q r s t u v w x)) else (Fa.j19 k b c d e g h i j l m n o p a true q r s t u v w x))
def Fa.j19:Nat→List (S43)→Bool→List (S34)→List Int→List Int→Int→Bool→Int→Int→Bool→List (S50)→Int→Int→List (S50)→Bool→List (S43)→List (S34)→List Int→List ByteArray→List (S55)→List Int→List (S72)→List Int→Option (Bool)
 | 0,_,_,_,_,_,_,_,_,_,_,_,_,_,_,_,_,_,_,_,_,_,_,_=>none
 | k + 1,a,b,c,d,e,g,h,i,j,l,m,n,o,p,q,r,s,t,u,v,w,x,y=>if q=true then (some false) else ((FR.f k p).bind fun z=>(Fa.l5 k a b c d e g h i j l m n (wrap64 (o + 1)) r s t u v w x y))
end
def Fa.f (k:Nat) (l0_0:List (S43)) (l0_1:List (S34)) (l0_2:List Int) (l0_3:List ByteArray) (l0_4:List (S55)) (l0_5:List Int):Option (Bool):=(Fg.f k l0_0 l0_1 l0_2 l0_3 l0_4 l0_5).bind fun d=>(if d=true then (some true) else ((FO.f k l0_0).bind fun e=>((Fw.f k l0_0).bind fun g=>((some (([(⟨([]:List (S72)),([]:List Int)⟩:S34)]:List (S34)):List (S34))).bind fun a=>(if a.length + l0_1.length<2932031007402 then ((some (([0,1,(-1)]:List Int):List Int)).bind fun b=>(if b.length + l0_2.length<17592186044416 then ((some (([0,3]:List Int):List Int)).bind fun c=>(if c.length + l0_5.length<17592186044416 then (Fa.l0 k e g (a ++ l0_1) (b ++ l0_2) (c ++ l0_5) 0 l0_0 l0_1 l0_2 l0_3 l0_4 l0_5) else (none))) else (none))) else (none))))))
theorem Fa.mono_l:∀ k,(∀ y0 y1 y2 y3 y4 y5 y6 y7 y8 y9 y10 y11,LeO (Fa.l0 k y0 y1 y2 y3 y4 y5 y6 y7 y8 y9 y10 y11) (Fa.l0 (k + 1) y0 y1 y2 y3 y4 y5 y6 y7 y8 y9 y10 y11))∧(∀ y0 y1 y2 y3 y4 y5 y6 y7 y8 y9 y10 y11 y12,LeO (Fa.j1 k y0 y1 y2 y3 y4 y5 y6 y7 y8 y9 y10 y11 y12) (Fa.j1 (k + 1) y0 y1 y2 y3 y4 y5 y6 y7 y8 y9 y10 y11 y12))∧(∀ y0 y1 y2 y3 y4 y5 y6 y7 y8 y9 y10 y11 y12 y13 y14,LeO (Fa.j2 k y0 y1 y2 y3 y4 y5 y6 y7 y8 y9 y10 y11 y12 y13 y14) (Fa.j2 (k + 1) y0 y1 y2 y3 y4 y5 y6 y7 y8 y9 y10 y11 y12 y13 y14))∧(∀ y0 y1 y2 y3 y4 y5 y6 y7 y8 y9 y10 y11 y12 y13 y14 y15,LeO (Fa.l1 k y0 y1 y2 y3 y4 y5 y6 y7 y8 y9 y10 y11 y12 y13 y14 y15) (Fa.l1 (k + 1) y0 y1 y2 y3 y4 y5 y6 y7 y8 y9 y10 y11 y12 y13 y14 y15))∧(∀ y0 y1 y2 y3 y4 y5 y6 y7 y8 y9 y10 y11 y12 y13 y14 y15 y16,LeO (Fa.j4 k y0 y1 y2 y3 y4 y5 y6 y7 y8 y9 y10 y11 y12 y13 y14 y15 y16) (Fa.j4 (k + 1) y0 y1 y2 y3 y4 y5 y6 y7 y8 y9 y10 y11 y12 y13 y14 y15 y16))∧(∀ y0 y1 y2 y3 y4 y5 y6 y7 y8 y9 y10 y11 y12 y13 y14 y15 y16,LeO (Fa.l2 k y0 y1 y2 y3 y4 y5 y6 y7 y8 y9 y10 y11 y12 y13 y14 y15 y16) (Fa.l2 (k + 1) y0 y1 y2 y3 y4 y5 y6 y7 y8 y9 y10 y11 y12 y13 y14 y15 y16))∧(∀ y0 y1 y2 y3 y4 y5 y6 y7 y8 y9 y10 y11 y12 y13 y14 y15 y16 y17,LeO (Fa.j6 k y0 y1 y2 y3 y4 y5 y6 y7 y8 y9 y10 y11 y12 y13 y14 y15 y16 y17) (Fa.j6 (k + 1) y0 y1 y2 y3 y4 y5 y6 y7 y8 y9 y10 y11 y12 y13 y14 y15 y16 y17))∧(∀ y0 y1 y2 y3 y4 y5 y6 y7 y8 y9 y10 y11 y12 y13 y14 y15 y16 y17,LeO (Fa.j7 k y0 y1 y2 y3 y4 y5 y6 y7 y8 y9 y10 y11 y12 y13 y14 y15 y16 y17) (Fa.j7 (k + 1) y0 y1 y2 y3 y4 y5 y6 y7 y8 y9 y10 y11 y12 y13 y14 y15 y16 y17))∧(∀ y0 y1 y2 y3 y4 y5 y6 y7 y8 y9 y10 y11 y12 y13 y14 y15 y16 y17 y18,LeO (Fa.j8 k y0 y1 y2 y3 y4 y5 y6 y7 y8 y9 y10 y11 y12 y13 y14 y15 y16 y17 y18) (Fa.j8 (k + 1) y0 y1 y2 y3 y4 y5 y6 y7 y8 y9 y10 y11 y12 y13 y14 y15 y16 y17 y18))∧(∀ y0 y1 y2 y3 y4 y5 y6 y7 y8 y9 y10 y11 y12 y13 y14 y15 y16 y17 y18 y19,LeO (Fa.l3 k y0 y1 y2 y3 y4 y5 y6 y7 y8 y9 y10 y11 y12 y13 y14 y15 y16 y17 y18 y19) (Fa.l3 (k + 1) y0 y1 y2 y3 y4 y5 y6 y7 y8 y9 y10 y11 y12 y13 y14 y15 y16 y17 y18 y19))∧(∀ y0 y1 y2 y3 y4 y5 y6 y7 y8 y9 y10 y11 y12 y13 y14 y15 y16 y17 y18 y19 y20,LeO (Fa.j10 k y0 y1 y2 y3 y4 y5 y6 y7 y8 y9 y10 y11 y12 y13 y14 y15 y16 y17 y18 y19 y20) (Fa.j10 (k + 1) y0 y1 y2 y3 y4 y5 y6 y7 y8 y9 y10 y11 y12 y13 y14 y15 y16 y17 y18 y19 y20))∧(∀ y0 y1 y2 y3 y4 y5 y6 y7 y8 y9 y10 y11 y12 y13 y14 y15 y16 y17 y18 y19 y20 y21 y22 y23 y24,LeO (Fa.j11 k y0 y1 y2 y3 y4 y5 y6 y7 y8 y9 y10 y11 y12 y13 y14 y15 y16 y17 y18 y19 y20 y21 y22 y23 y24) (Fa.j11 (k + 1) y0 y1 y2 y3 y4 y5 y6 y7 y8 y9 y10 y11 y12 y13 y14 y15 y16 y17 y18 y19 y20 y21 y22 y23 y24))∧(∀ y0 y1 y2 y3 y4 y5 y6 y7 y8 y9 y10 y11 y12 y13 y14 y15 y16 y17 y18 y19 y20 y21 y22 y23,LeO (Fa.j12 k y0 y1 y2 y3 y4 y5 y6 y7 y8 y9 y10 y11 y12 y13 y14 y15 y16 y17 y18 y19 y20 y21 y22 y23) (Fa.j12 (k + 1) y0 y1 y2 y3 y4 y5 y6 y7 y8 y9 y10 y11 y12 y13 y14 y15 y16 y17 y18 y19 y20 y21 y22 y23))∧(∀ y0 y1 y2 y3 y4 y5 y6 y7 y8 y9 y10 y11 y12 y13 y14 y15 y16 y17 y18 y19 y20,LeO (Fa.j13 k y0 y1 y2 y3 y4 y5 y6 y7 y8 y9 y10 y11 y12 y13 y14 y15 y16 y17 y18 y19 y20) (Fa.j13 (k + 1) y0 y1 y2 y3 y4 y5 y6 y7 y8 y9 y10 y11 y12 y13 y14 y15 y16 y17 y18 y19 y20))∧(∀ y0 y1 y2 y3 y4 y5 y6 y7 y8 y9 y10 y11 y12 y13 y14 y15 y16 y17 y18 y19,LeO (Fa.l4 k y0 y1 y2 y3 y4 y5 y6 y7 y8 y9 y10 y11 y12 y13 y14 y15 y16 y17 y18 y19) (Fa.l4 (k + 1) y0 y1 y2 y3 y4 y5 y6 y7 y8 y9 y10 y11 y12 y13 y14 y15 y16 y17 y18 y19))∧(∀ y0 y1 y2 y3 y4 y5 y6 y7 y8 y9 y10 y11 y12 y13 y14 y15 y16 y17 y18 y19 y20,LeO (Fa.j15 k y0 y1 y2 y3 y4 y5 y6 y7 y8 y9 y10 y11 y12 y13 y14 y15 y16 y17 y18 y19 y20) (Fa.j15 (k + 1) y0 y1 y2 y3 y4 y5 y6 y7 y8 y9 y10 y11 y12 y13 y14 y15 y16 y17 y18 y19 y20))∧(∀ y0 y1 y2 y3 y4 y5 y6 y7 y8 y9 y10 y11 y12 y13 y14 y15 y16 y17 y18 y19 y20,LeO (Fa.l5 k y0 y1 y2 y3 y4 y5 y6 y7 y8 y9 y10 y11 y12 y13 y14 y15 y16 y17 y18 y19 y20) (Fa.l5 (k + 1) y0 y1 y2 y3 y4 y5 y6 y7 y8 y9 y10 y11 y12 y13 y14 y15 y16 y17 y18 y19 y20))∧(∀ y0 y1 y2 y3 y4 y5 y6 y7 y8 y9 y10 y11 y12 y13 y14 y15 y16 y17 y18 y19 y20 y21 y22 y23 y24 y25 y26,LeO (Fa.j17 k y0 y1 y2 y3 y4 y5 y6 y7 y8 y9 y10 y11 y12 y13 y14 y15 y16 y17 y18 y19 y20 y21 y22 y23 y24 y25 y26) (Fa.j17 (k + 1) y0 y1 y2 y3 y4 y5 y6 y7 y8 y9 y10 y11 y12 y13 y14 y15 y16 y17 y18 y19 y20 y21 y22 y23 y24 y25 y26))∧(∀ y0 y1 y2 y3 y4 y5 y6 y7 y8 y9 y10 y11 y12 y13 y14 y15 y16 y17 y18 y19 y20 y21 y22 y23 y24,LeO (Fa.j18 k y0 y1 y2 y3 y4 y5 y6 y7 y8 y9 y10 y11 y12 y13 y14 y15 y16 y17 y18 y19 y20 y21 y22 y23 y24) (Fa.j18 (k + 1) y0 y1 y2 y3 y4 y5 y6 y7 y8 y9 y10 y11 y12 y13 y14 y15 y16 y17 y18 y19 y20 y21 y22 y23 y24))∧(∀ y0 y1 y2 y3 y4 y5 y6 y7 y8 y9 y10 y11 y12 y13 y14 y15 y16 y17 y18 y19 y20 y21 y22,LeO (Fa.j19 k y0 y1 y2 y3 y4 y5 y6 y7 y8 y9 y10 y11 y12 y13 y14 y15 y16 y17 y18 y19 y20 y21 y22) (Fa.j19 (k + 1) y0 y1 y2 y3 y4 y5 y6 y7 y8 y9 y10 y11 y12 y13 y14 y15 y16 y17 y18 y19 y20 y21 y22))
 | 0=>⟨fun _ _ _ _ _ _ _ _ _ _ _ _ r h=>by simp [Fa.l0] at h,fun _ _ _ _ _ _ _ _ _ _ _ _ _ r h=>by simp [Fa.j1] at h,fun _ _ _ _ _ _ _ _ _ _ _ _ _ _ _ r h=>by simp [Fa.j2] at h,fun _ _ _ _ _ _ _ _ _ _ _ _ _ _ _ _ r h=>by simp [Fa.l1] at h,fun _ _ _ _ _ _ _ _ _ _ _ _ _ _ _ _ _ r h=>by simp [Fa.j4] at h,fun _ _ _ _ _ _ _ _ _ _ _ _ _ _ _ _ _ r h=>by simp [Fa.l2] at h,fun _ _ _ _ _ _ _ _ _ _ _ _ _ _ _ _ _ _ r h=>by simp [Fa.j6] at h,fun _ _ _ _ _ _ _ _ _ _ _ _ _ _ _ _ _ _ r h=>by simp [Fa.j7] at h,fun _ _ _ _ _ _ _ _ _ _ _ _ _ _ _ _ _ _ _ r h=>by simp [Fa.j8] at h,fun _ _ _ _ _ _ _ _ _ _ _ _ _ _ _ _ _ _ _ _ r h=>by simp [Fa.l3] at h,fun _ _ _ _ _ _ _ _ _ _ _ _ _ _ _ _ _ _ _ _ _ r h=>by simp [Fa.j10] at h,fun _ _ _ _ _ _ _ _ _ _ _ _ _ _ _ _ _ _ _ _ _ _ _ _ _ r h=>by simp [Fa.j11] at h,fun _ _ _ _ _ _ _ _ _ _ _ _ _ _ _ _ _ _ _ _ _ _ _ _ r h=>by simp [Fa.j12] at h,fun _ _ _ _ _ _ _ _ _ _ _ _ _ _ _ _ _ _ _ _ _ r h=>by simp [Fa.j13] at h,fun _ _ _ _ _ _ _ _ _ _ _ _ _ _ _ _ _ _ _ _ r h=>by simp [Fa.l4] at h,fun _ _ _ _ _ _ _ _ _ _ _ _ _ _ _ _ _ _ _ _ _ r h=>by simp [Fa.j15] at h,fun _ _ _ _ _ _ _ _ _ _ _ _ _ _ _ _ _ _ _ _ _ r h=>by simp [Fa.l5] at h,fun _ _ _ _ _ _ _ _ _ _ _ _ _ _ _ _ _ _ _ _ _ _ _ _ _ _ _ r h=>by simp [Fa.j17] at h,fun _ _ _ _ _ _ _ _ _ _ _ _ _ _ _ _ _ _ _ _ _ _ _ _ _ r h=>by simp [Fa.j18] at h,fun _ _ _ _ _ _ _ _ _ _ _ _ _ _ _ _ _ _ _ _ _ _ _ r h=>by simp [Fa.j19] at h⟩
 | k + 1=>by
  obtain ⟨ih0,ih1,ih2,ih3,ih4,ih5,ih6,ih7,ih8,ih9,ih10,ih11,ih12,ih13,ih14,ih15,ih16,ih17,ih18,ih19⟩:=Fa.mono_l k
  have:=@FR.mono
  have:=@Fg.mono
  have:=@Gk.mono
  have:=@Gn.mono
  have:=@FO.mono
  have:=@Gf.mono
  have:=@FQ.mono
  have:=@Fx.mono
  have:=@FH.mono
  have:=@Fy.mono
  have:=@Ff.mono
  have:=@Fz.mono
  have:=@Fr.mono
  have:=@Fd.mono
  have:=@Fw.mono
  have:=@Fq.mono
  have:=@Fs.mono
  refine ⟨?_,?_,?_,?_,?_,?_,?_,?_,?_,?_,?_,?_,?_,?_,?_,?_,?_,?_,?_,?_⟩
  all_goals (intros;first|unfold Fa.l0|unfold Fa.j1|unfold Fa.j2|unfold Fa.l1|unfold Fa.j4|unfold Fa.l2|unfold Fa.j6|unfold Fa.j7|unfold Fa.j8|unfold Fa.l3|unfold Fa.j10|unfold Fa.j11|unfold Fa.j12|unfold Fa.j13|unfold Fa.l4|unfold Fa.j15|unfold Fa.l5|unfold Fa.j17|unfold Fa.j18|unfold Fa.j19)
  all_goals exact mz_
theorem Fa.mono:∀ a0 a1 a2 a3 a4 a5 k,LeO (Fa.f k a0 a1 a2 a3 a4 a5) (Fa.f (k + 1) a0 a1 a2 a3 a4 a5):=by
 intro a0 a1 a2 a3 a4 a5 k
 obtain ⟨ih0,ih1,ih2,ih3,ih4,ih5,ih6,ih7,ih8,ih9,ih10,ih11,ih12,ih13,ih14,ih15,ih16,ih17,ih18,ih19⟩:=Fa.mono_l k
 have:=@FR.mono
 have:=@Fg.mono
 have:=@Gk.mono
 have:=@Gn.mono
 have:=@FO.mono
 have:=@Gf.mono
 have:=@FQ.mono
 have:=@Fx.mono
 have:=@FH.mono
 have:=@Fy.mono
 have:=@Ff.mono
 have:=@Fz.mono
 have:=@Fr.mono
 have:=@Fd.mono
 have:=@Fw.mono
 have:=@Fq.mono
 have:=@Fs.mono
 unfold Fa.f
 exact mz_
def Fa.T19:Bool×List (List Nat×List Nat):=(true,[([],[]),([0],[0]),([1],[1]),([1],[1]),([2,3,1],[1,2,3]),([4,1],[1,4]),([1],[1]),([6,1],[1,6]),([7,1],[1,7]),([8,1],[1,8]),([5,9,1,1],[1,5,9]),([1,10],[1,10]),([11,10,0,1,2,3,4,5,6,7,8,9,10,11],[11])])
def Fa.B19:List Nat:=[0,1,3,3,15,31,3,67,195,451,1023,2047,4095]
theorem Fa.tab19:rtab .any (opsOf Tryz.f3 19)=Fa.T19:=by kernel_rfl
theorem Fa.bits19:waitsOk Fa.T19.2 Fa.B19=true:=by kernel_rfl
def Fa.T22:Bool×List (List Nat×List Nat):=(true,[([],[]),([0],[0]),([],[]),([],[]),([2,3],[2,3]),([4],[4]),([1,5],[1,5]),([6],[6]),([],[]),([],[]),([8,9],[8,9]),([10],[10]),([7,11],[7,11]),([],[]),([],[]),([13,14],[13,14]),([15],[15]),([],[]),([],[]),([17,18],[17,18]),([19],[19]),([12,16,20,12],[12,16,20]),([21,21,0,1,2,3,4,5,6,7,8,9,10,11,12,13,14,15,16,17,18,19,20,21],[21])])
def Fa.B22:List Nat:=[0,1,0,0,12,28,63,127,0,0,768,1792,4095,0,0,24576,57344,0,0,393216,917504,2097151,4194303]
theorem Fa.tab22:rtab .any (opsOf Tryz.f3 22)=Fa.T22:=by kernel_rfl
theorem Fa.bits22:waitsOk Fa.T22.2 Fa.B22=true:=by kernel_rfl
def Fa.T26:Bool×List (List Nat×List Nat):=(true,[([],[]),([],[]),([],[]),([],[]),([2,3],[2,3]),([4],[4]),([],[]),([6],[6]),([],[]),([7,8],[7,8]),([9],[9]),([],[]),([],[]),([11,12],[11,12]),([13],[13]),([0,1,5,10,14],[0,1,5,10,14]),([15],[15]),([16],[16]),([16],[16]),([17,15,0,1,2,3,4,5,6,7,8,9,10,11,12,13,14,15,16,17],[17]),([18,19,0,1,2,3,4,5,6,7,8,9,10,11,12,13,14,15,16,17,18,19],[18])])
def Fa.B26:List Nat:=[0,0,0,0,12,28,0,64,0,448,960,0,0,6144,14336,32767,65535,131071,131071,262143,1048575]
theorem Fa.tab26:rtab .any (opsOf Tryz.f3 26)=Fa.T26:=by kernel_rfl
theorem Fa.bits26:waitsOk Fa.T26.2 Fa.B26=true:=by kernel_rfl
def Fa.T42:Bool×List (List Nat×List Nat):=(true,[([],[]),([],[]),([],[]),([],[]),([2,3],[2,3]),([4],[4]),([],[]),([6],[6]),([],[]),([7,8],[7,8]),([9],[9]),([],[]),([],[]),([11,12],[11,12]),([13],[13]),([],[]),([],[]),([16],[16]),([0,1,5,10,14,15,17],[0,1,5,10,14,15,17]),([18],[18]),([19],[19]),([19],[19]),([20,18,0,1,2,3,4,5,6,7,8,9,10,11,12,13,14,15,16,17,18,19,20],[20]),([21,22,0,1,2,3,4,5,6,7,8,9,10,11,12,13,14,15,16,17,18,19,20,21,22],[21])])
def Fa.B42:List Nat:=[0,0,0,0,12,28,0,64,0,448,960,0,0,6144,14336,0,0,65536,262143,524287,1048575,1048575,2097151,8388607]
theorem Fa.tab42:rtab .any (opsOf Tryz.f3 42)=Fa.T42:=by kernel_rfl
theorem Fa.bits42:waitsOk Fa.T42.2 Fa.B42=true:=by kernel_rfl
end Go.Proofs.YtbaecdcfefmcgaaGreat.PVrd
