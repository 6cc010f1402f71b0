/- Part 28. -/
import Derived.Test.YtgbigpdiacjbgaaGreatKP26
set_option linter.unusedSimpArgs false
set_option linter.unusedVariables false
set_option maxHeartbeats 32000000
set_option maxRecDepth 100000
namespace Go.Proofs.YtgbigpdiacjbgaaGreat
open Go.RowKit
namespace Rm
open bg Ops fG eP MO Vn bJ qh Go.Proofs.YtgbigpdiacjbgaaGreat.Ask
attribute [local go_sem↓] bW cZ
section
variable(w:World)(x:aO)
theorem NW:Calls Tryz.prog 111 #[aK x,.int .u8 101] w fun e w'=>e=.returned (.int .i64 (x.ep))/\Kept aj w w':=by
 obtain⟨W0,hW0⟩:∃W0,w.alloc (.cells (au x).toArray 63)=W0:=⟨_,rfl⟩;have hk0:Kept aj w W0:=by rw[<-hW0];(repeat'(first|(with_reducible first|exact ay|apply aA|apply aB|apply aC|apply aF)|(right;simp;done)))
 have hn0:Has W0 w.heap.size 63 (au x).toArray:=by rw[<-hW0];exact Has.new _ _ _
 have q:W0.cell? ⟨w.heap.size,1,none⟩=some (.int .i64 (x.ep)):=hn0.cell 1;have aS:=ah hk0;clear hk0 hn0;go_enter Tryz.func111,Tryz.ntmps111;go_wp2;go_ret;exact⟨rfl,aS.out⟩
theorem XZ:Calls Tryz.prog 111 #[aK x,.int .u8 115] w fun e w'=>e=.returned (.int .i64 (x.tK))/\Kept aj w w':=by
 obtain⟨W0,hW0⟩:∃W0,w.alloc (.cells (au x).toArray 63)=W0:=⟨_,rfl⟩;have hk0:Kept aj w W0:=by rw[<-hW0];(repeat'(first|(with_reducible first|exact ay|apply aA|apply aB|apply aC|apply aF)|(right;simp;done)))
 have hn0:Has W0 w.heap.size 63 (au x).toArray:=by rw[<-hW0];exact Has.new _ _ _
 have q:W0.cell? ⟨w.heap.size,3,none⟩=some (.int .i64 (x.tK)):=hn0.cell 3;have aS:=ah hk0;clear hk0 hn0;go_enter Tryz.func111,Tryz.ntmps111;go_wp2;go_ret;exact⟨rfl,aS.out⟩
theorem NY:Calls Tryz.prog 111 #[aK x,.int .u8 114] w fun e w'=>e=.returned (.int .i64 (x.req))/\Kept aj w w':=by
 obtain⟨W0,hW0⟩:∃W0,w.alloc (.cells (au x).toArray 63)=W0:=⟨_,rfl⟩;have hk0:Kept aj w W0:=by rw[<-hW0];(repeat'(first|(with_reducible first|exact ay|apply aA|apply aB|apply aC|apply aF)|(right;simp;done)))
 have hn0:Has W0 w.heap.size 63 (au x).toArray:=by rw[<-hW0];exact Has.new _ _ _
 have q:W0.cell? ⟨w.heap.size,2,none⟩=some (.int .i64 (x.req)):=hn0.cell 2;have aS:=ah hk0;clear hk0 hn0;go_enter Tryz.func111,Tryz.ntmps111;go_wp2;go_ret;exact⟨rfl,aS.out⟩
theorem NZ:Calls Tryz.prog 111 #[aK x,.int .u8 110] w fun e w'=>e=.returned (.int .i64 (x.n))/\Kept aj w w':=by
 obtain⟨W0,hW0⟩:∃W0,w.alloc (.cells (au x).toArray 63)=W0:=⟨_,rfl⟩;have hk0:Kept aj w W0:=by rw[<-hW0];(repeat'(first|(with_reducible first|exact ay|apply aA|apply aB|apply aC|apply aF)|(right;simp;done)))
 have hn0:Has W0 w.heap.size 63 (au x).toArray:=by rw[<-hW0];exact Has.new _ _ _
 have q:W0.cell? ⟨w.heap.size,7,none⟩=some (.int .i64 (x.n)):=hn0.cell 7;have aS:=ah hk0;clear hk0 hn0;go_enter Tryz.func111,Tryz.ntmps111;go_wp2;go_ret;exact⟨rfl,aS.out⟩
theorem X4:Calls Tryz.prog 111 #[aK x,.int .u8 109] w fun e w'=>e=.returned (.int .i64 (x.m))/\Kept aj w w':=by
 obtain⟨W0,hW0⟩:∃W0,w.alloc (.cells (au x).toArray 63)=W0:=⟨_,rfl⟩;have hk0:Kept aj w W0:=by rw[<-hW0];(repeat'(first|(with_reducible first|exact ay|apply aA|apply aB|apply aC|apply aF)|(right;simp;done)))
 have hn0:Has W0 w.heap.size 63 (au x).toArray:=by rw[<-hW0];exact Has.new _ _ _
 have q:W0.cell? ⟨w.heap.size,8,none⟩=some (.int .i64 (x.m)):=hn0.cell 8;have aS:=ah hk0;clear hk0 hn0;go_enter Tryz.func111,Tryz.ntmps111;go_wp2;go_ret;exact⟨rfl,aS.out⟩
theorem X5:Calls Tryz.prog 111 #[aK x,.int .u8 112] w fun e w'=>e=.returned (.int .i64 (x.p))/\Kept aj w w':=by
 obtain⟨W0,hW0⟩:∃W0,w.alloc (.cells (au x).toArray 63)=W0:=⟨_,rfl⟩;have hk0:Kept aj w W0:=by rw[<-hW0];(repeat'(first|(with_reducible first|exact ay|apply aA|apply aB|apply aC|apply aF)|(right;simp;done)))
 have hn0:Has W0 w.heap.size 63 (au x).toArray:=by rw[<-hW0];exact Has.new _ _ _
 have q:W0.cell? ⟨w.heap.size,9,none⟩=some (.int .i64 (x.p)):=hn0.cell 9;have aS:=ah hk0;clear hk0 hn0;go_enter Tryz.func111,Tryz.ntmps111;go_wp2;go_ret;exact⟨rfl,aS.out⟩
theorem Zw:Calls Tryz.prog 72 #[aK x,.int .u8 101] w fun e w'=>e=.returned (.int .i64 (aT x 101))/\Kept aj w w':=by
 obtain⟨W0,hW0⟩:∃W0,w.alloc (.cells (au x).toArray 63)=W0:=⟨_,rfl⟩;have hk0:Kept aj w W0:=by rw[<-hW0];(repeat'(first|(with_reducible first|exact ay|apply aA|apply aB|apply aC|apply aF)|(right;simp;done)))
 have hn0:Has W0 w.heap.size 63 (au x).toArray:=by rw[<-hW0];exact Has.new _ _ _
 have hc:=NW W0 x;have hl0:=aH W0 w.heap.size x hn0;have hw:aT x 101=qM x.ep:=rfl;rw[hw];unfold qM;obtain⟨n,hn⟩:∃n,x.ep=n:=⟨_,rfl⟩;rw[hn]at hc⊢;have HC:=ah hc;have aS:=ah hk0;clear hk0 hn0 hc hn hw;have hcase:(n<0)\/(¬n<0/\1073741824<n)\/(¬n<0/\¬1073741824<n):=by omega
 rcases hcase with h1|⟨h1,h2⟩|⟨h1,h2⟩
 ·rw[if_pos (.inl h1)];go_enter Tryz.func72,Tryz.ntmps72;go_wp2_with fail;refine HC.out.mono ?_;rintro e w2 ⟨rfl,hk⟩;have HK:=ah (aS.out.then hk);clear hk;go_wp2;go_ret;exact⟨rfl,HK.out⟩
 ·rw[if_pos (.inr h2)];go_enter Tryz.func72,Tryz.ntmps72;go_wp2_with fail;refine HC.out.mono ?_;rintro e w2 ⟨rfl,hk⟩;have HK:=ah (aS.out.then hk);clear hk;go_wp2;go_ret;exact⟨rfl,HK.out⟩
 ·rw[if_neg (by omega)];go_enter Tryz.func72,Tryz.ntmps72;go_wp2_with fail;refine HC.out.mono ?_;rintro e w2 ⟨rfl,hk⟩;have HK:=ah (aS.out.then hk);clear hk;go_wp2;go_ret;exact⟨rfl,HK.out⟩
theorem Zx:Calls Tryz.prog 72 #[aK x,.int .u8 115] w fun e w'=>e=.returned (.int .i64 (aT x 115))/\Kept aj w w':=by
 obtain⟨W0,hW0⟩:∃W0,w.alloc (.cells (au x).toArray 63)=W0:=⟨_,rfl⟩;have hk0:Kept aj w W0:=by rw[<-hW0];(repeat'(first|(with_reducible first|exact ay|apply aA|apply aB|apply aC|apply aF)|(right;simp;done)))
 have hn0:Has W0 w.heap.size 63 (au x).toArray:=by rw[<-hW0];exact Has.new _ _ _
 have hc:=XZ W0 x;have hl0:=aH W0 w.heap.size x hn0;have hw:aT x 115=qM x.tK:=rfl;rw[hw];unfold qM;obtain⟨n,hn⟩:∃n,x.tK=n:=⟨_,rfl⟩;rw[hn]at hc⊢;have HC:=ah hc;have aS:=ah hk0;clear hk0 hn0 hc hn hw;have hcase:(n<0)\/(¬n<0/\1073741824<n)\/(¬n<0/\¬1073741824<n):=by omega
 rcases hcase with h1|⟨h1,h2⟩|⟨h1,h2⟩
 ·rw[if_pos (.inl h1)];go_enter Tryz.func72,Tryz.ntmps72;go_wp2_with fail;refine HC.out.mono ?_;rintro e w2 ⟨rfl,hk⟩;have HK:=ah (aS.out.then hk);clear hk;go_wp2;go_ret;exact⟨rfl,HK.out⟩
 ·rw[if_pos (.inr h2)];go_enter Tryz.func72,Tryz.ntmps72;go_wp2_with fail;refine HC.out.mono ?_;rintro e w2 ⟨rfl,hk⟩;have HK:=ah (aS.out.then hk);clear hk;go_wp2;go_ret;exact⟨rfl,HK.out⟩
 ·rw[if_neg (by omega)];go_enter Tryz.func72,Tryz.ntmps72;go_wp2_with fail;refine HC.out.mono ?_;rintro e w2 ⟨rfl,hk⟩;have HK:=ah (aS.out.then hk);clear hk;go_wp2;go_ret;exact⟨rfl,HK.out⟩
theorem Zy:Calls Tryz.prog 72 #[aK x,.int .u8 114] w fun e w'=>e=.returned (.int .i64 (aT x 114))/\Kept aj w w':=by
 obtain⟨W0,hW0⟩:∃W0,w.alloc (.cells (au x).toArray 63)=W0:=⟨_,rfl⟩;have hk0:Kept aj w W0:=by rw[<-hW0];(repeat'(first|(with_reducible first|exact ay|apply aA|apply aB|apply aC|apply aF)|(right;simp;done)))
 have hn0:Has W0 w.heap.size 63 (au x).toArray:=by rw[<-hW0];exact Has.new _ _ _
 have hc:=NY W0 x;have hl0:=aH W0 w.heap.size x hn0;have hw:aT x 114=qM x.req:=rfl;rw[hw];unfold qM;obtain⟨n,hn⟩:∃n,x.req=n:=⟨_,rfl⟩;rw[hn]at hc⊢;have HC:=ah hc;have aS:=ah hk0;clear hk0 hn0 hc hn hw;have hcase:(n<0)\/(¬n<0/\1073741824<n)\/(¬n<0/\¬1073741824<n):=by omega
 rcases hcase with h1|⟨h1,h2⟩|⟨h1,h2⟩
 ·rw[if_pos (.inl h1)];go_enter Tryz.func72,Tryz.ntmps72;go_wp2_with fail;refine HC.out.mono ?_;rintro e w2 ⟨rfl,hk⟩;have HK:=ah (aS.out.then hk);clear hk;go_wp2;go_ret;exact⟨rfl,HK.out⟩
 ·rw[if_pos (.inr h2)];go_enter Tryz.func72,Tryz.ntmps72;go_wp2_with fail;refine HC.out.mono ?_;rintro e w2 ⟨rfl,hk⟩;have HK:=ah (aS.out.then hk);clear hk;go_wp2;go_ret;exact⟨rfl,HK.out⟩
 ·rw[if_neg (by omega)];go_enter Tryz.func72,Tryz.ntmps72;go_wp2_with fail;refine HC.out.mono ?_;rintro e w2 ⟨rfl,hk⟩;have HK:=ah (aS.out.then hk);clear hk;go_wp2;go_ret;exact⟨rfl,HK.out⟩
theorem Zz:Calls Tryz.prog 72 #[aK x,.int .u8 110] w fun e w'=>e=.returned (.int .i64 (aT x 110))/\Kept aj w w':=by
 obtain⟨W0,hW0⟩:∃W0,w.alloc (.cells (au x).toArray 63)=W0:=⟨_,rfl⟩;have hk0:Kept aj w W0:=by rw[<-hW0];(repeat'(first|(with_reducible first|exact ay|apply aA|apply aB|apply aC|apply aF)|(right;simp;done)))
 have hn0:Has W0 w.heap.size 63 (au x).toArray:=by rw[<-hW0];exact Has.new _ _ _
 have hc:=NZ W0 x;have hl0:=aH W0 w.heap.size x hn0;have hw:aT x 110=qM x.n:=rfl;rw[hw];unfold qM;obtain⟨n,hn⟩:∃n,x.n=n:=⟨_,rfl⟩;rw[hn]at hc⊢;have HC:=ah hc;have aS:=ah hk0;clear hk0 hn0 hc hn hw;have hcase:(n<0)\/(¬n<0/\1073741824<n)\/(¬n<0/\¬1073741824<n):=by omega
 rcases hcase with h1|⟨h1,h2⟩|⟨h1,h2⟩
 ·rw[if_pos (.inl h1)];go_enter Tryz.func72,Tryz.ntmps72;go_wp2_with fail;refine HC.out.mono ?_;rintro e w2 ⟨rfl,hk⟩;have HK:=ah (aS.out.then hk);clear hk;go_wp2;go_ret;exact⟨rfl,HK.out⟩
 ·rw[if_pos (.inr h2)];go_enter Tryz.func72,Tryz.ntmps72;go_wp2_with fail;refine HC.out.mono ?_;rintro e w2 ⟨rfl,hk⟩;have HK:=ah (aS.out.then hk);clear hk;go_wp2;go_ret;exact⟨rfl,HK.out⟩
 ·rw[if_neg (by omega)];go_enter Tryz.func72,Tryz.ntmps72;go_wp2_with fail;refine HC.out.mono ?_;rintro e w2 ⟨rfl,hk⟩;have HK:=ah (aS.out.then hk);clear hk;go_wp2;go_ret;exact⟨rfl,HK.out⟩
theorem ZA:Calls Tryz.prog 72 #[aK x,.int .u8 109] w fun e w'=>e=.returned (.int .i64 (aT x 109))/\Kept aj w w':=by
 obtain⟨W0,hW0⟩:∃W0,w.alloc (.cells (au x).toArray 63)=W0:=⟨_,rfl⟩;have hk0:Kept aj w W0:=by rw[<-hW0];(repeat'(first|(with_reducible first|exact ay|apply aA|apply aB|apply aC|apply aF)|(right;simp;done)))
 have hn0:Has W0 w.heap.size 63 (au x).toArray:=by rw[<-hW0];exact Has.new _ _ _
 have hc:=X4 W0 x;have hl0:=aH W0 w.heap.size x hn0;have hw:aT x 109=qM x.m:=rfl;rw[hw];unfold qM;obtain⟨n,hn⟩:∃n,x.m=n:=⟨_,rfl⟩;rw[hn]at hc⊢;have HC:=ah hc;have aS:=ah hk0;clear hk0 hn0 hc hn hw;have hcase:(n<0)\/(¬n<0/\1073741824<n)\/(¬n<0/\¬1073741824<n):=by omega
 rcases hcase with h1|⟨h1,h2⟩|⟨h1,h2⟩
 ·rw[if_pos (.inl h1)];go_enter Tryz.func72,Tryz.ntmps72;go_wp2_with fail;refine HC.out.mono ?_;rintro e w2 ⟨rfl,hk⟩;have HK:=ah (aS.out.then hk);clear hk;go_wp2;go_ret;exact⟨rfl,HK.out⟩
 ·rw[if_pos (.inr h2)];go_enter Tryz.func72,Tryz.ntmps72;go_wp2_with fail;refine HC.out.mono ?_;rintro e w2 ⟨rfl,hk⟩;have HK:=ah (aS.out.then hk);clear hk;go_wp2;go_ret;exact⟨rfl,HK.out⟩
 ·rw[if_neg (by omega)];go_enter Tryz.func72,Tryz.ntmps72;go_wp2_with fail;refine HC.out.mono ?_;rintro e w2 ⟨rfl,hk⟩;have HK:=ah (aS.out.then hk);clear hk;go_wp2;go_ret;exact⟨rfl,HK.out⟩
theorem ZB:Calls Tryz.prog 72 #[aK x,.int .u8 112] w fun e w'=>e=.returned (.int .i64 (aT x 112))/\Kept aj w w':=by
 obtain⟨W0,hW0⟩:∃W0,w.alloc (.cells (au x).toArray 63)=W0:=⟨_,rfl⟩;have hk0:Kept aj w W0:=by rw[<-hW0];(repeat'(first|(with_reducible first|exact ay|apply aA|apply aB|apply aC|apply aF)|(right;simp;done)))
 have hn0:Has W0 w.heap.size 63 (au x).toArray:=by rw[<-hW0];exact Has.new _ _ _
 have hc:=X5 W0 x;have hl0:=aH W0 w.heap.size x hn0;have hw:aT x 112=qM x.p:=rfl;rw[hw];unfold qM;obtain⟨n,hn⟩:∃n,x.p=n:=⟨_,rfl⟩;rw[hn]at hc⊢;have HC:=ah hc;have aS:=ah hk0;clear hk0 hn0 hc hn hw;have hcase:(n<0)\/(¬n<0/\1073741824<n)\/(¬n<0/\¬1073741824<n):=by omega
 rcases hcase with h1|⟨h1,h2⟩|⟨h1,h2⟩
 ·rw[if_pos (.inl h1)];go_enter Tryz.func72,Tryz.ntmps72;go_wp2_with fail;refine HC.out.mono ?_;rintro e w2 ⟨rfl,hk⟩;have HK:=ah (aS.out.then hk);clear hk;go_wp2;go_ret;exact⟨rfl,HK.out⟩
 ·rw[if_pos (.inr h2)];go_enter Tryz.func72,Tryz.ntmps72;go_wp2_with fail;refine HC.out.mono ?_;rintro e w2 ⟨rfl,hk⟩;have HK:=ah (aS.out.then hk);clear hk;go_wp2;go_ret;exact⟨rfl,HK.out⟩
 ·rw[if_neg (by omega)];go_enter Tryz.func72,Tryz.ntmps72;go_wp2_with fail;refine HC.out.mono ?_;rintro e w2 ⟨rfl,hk⟩;have HK:=ah (aS.out.then hk);clear hk;go_wp2;go_ret;exact⟨rfl,HK.out⟩
theorem ZC:Calls Tryz.prog 72 #[aK x,.int .u8 120] w fun e w'=>e=.returned (.int .i64 (aT x 120))/\Kept aj w w':=by
 obtain⟨W0,hW0⟩:∃W0,w.alloc (.cells (au x).toArray 63)=W0:=⟨_,rfl⟩;have hk0:Kept aj w W0:=by rw[<-hW0];(repeat'(first|(with_reducible first|exact ay|apply aA|apply aB|apply aC|apply aF)|(right;simp;done)))
 have hn0:Has W0 w.heap.size 63 (au x).toArray:=by rw[<-hW0];exact Has.new _ _ _
 have q:W0.cell? ⟨w.heap.size,10,none⟩=some (.int .i64 x.e):=hn0.cell 10;have hw:aT x 120=if x.e<0\/21<x.e then 1 else 0:=rfl;rw[hw];obtain⟨n,hn⟩:∃n,x.e=n:=⟨_,rfl⟩;rw[hn]at q⊢;have aS:=ah hk0;clear hk0 hn0 hn hw;have hcase:(n<0)\/(¬n<0/\21<n)\/(¬n<0/\¬21<n):=by omega
 rcases hcase with h1|⟨h1,h2⟩|⟨h1,h2⟩
 ·rw[if_pos (.inl h1)];go_enter Tryz.func72,Tryz.ntmps72;go_wp2;go_ret;exact⟨rfl,aS.out⟩
 ·rw[if_pos (.inr h2)];go_enter Tryz.func72,Tryz.ntmps72;go_wp2;go_ret;exact⟨rfl,aS.out⟩
 ·rw[if_neg (by omega)];go_enter Tryz.func72,Tryz.ntmps72;go_wp2;go_ret;exact⟨rfl,aS.out⟩
theorem ZD:Calls Tryz.prog 72 #[aK x,.int .u8 107] w fun e w'=>e=.returned (.int .i64 (aT x 107))/\Kept aj w w':=by
 obtain⟨W0,hW0⟩:∃W0,w.alloc (.cells (au x).toArray 63)=W0:=⟨_,rfl⟩;have hk0:Kept aj w W0:=by rw[<-hW0];(repeat'(first|(with_reducible first|exact ay|apply aA|apply aB|apply aC|apply aF)|(right;simp;done)))
 have hn0:Has W0 w.heap.size 63 (au x).toArray:=by rw[<-hW0];exact Has.new _ _ _
 have q:W0.cell? ⟨w.heap.size,11,none⟩=some (.string x.key):=hn0.cell 11;have hw:aT x 107=if 8<x.key.size then 3 else 0:=rfl;rw[hw];have aS:=ah hk0;clear hk0 hn0 hw;by_cases h1:8<x.key.size
 ·rw[if_pos h1];have h8:(8:Int)<(x.key.size:Int):=by omega
  clear h1;go_enter Tryz.func72,Tryz.ntmps72;go_wp2;go_ret;exact⟨rfl,aS.out⟩
 ·rw[if_neg h1];have h8:¬(8:Int)<(x.key.size:Int):=by omega
  clear h1;go_enter Tryz.func72,Tryz.ntmps72;go_wp2;go_ret;exact⟨rfl,aS.out⟩
theorem ZE:Calls Tryz.prog 72 #[aK x,.int .u8 116] w fun e w'=>e=.returned (.int .i64 (aT x 116))/\Kept aj w w':=by
 obtain⟨W0,hW0⟩:∃W0,w.alloc (.cells (au x).toArray 63)=W0:=⟨_,rfl⟩;have hk0:Kept aj w W0:=by rw[<-hW0];(repeat'(first|(with_reducible first|exact ay|apply aA|apply aB|apply aC|apply aF)|(right;simp;done)))
 have hn0:Has W0 w.heap.size 63 (au x).toArray:=by rw[<-hW0];exact Has.new _ _ _
 have q:W0.cell? ⟨w.heap.size,12,none⟩=some (.string x.to):=hn0.cell 12;have hw:aT x 116=if 8<x.to.size then 3 else 0:=rfl;rw[hw];have aS:=ah hk0;clear hk0 hn0 hw;by_cases h1:8<x.to.size
 ·rw[if_pos h1];have h8:(8:Int)<(x.to.size:Int):=by omega
  clear h1;go_enter Tryz.func72,Tryz.ntmps72;go_wp2;go_ret;exact⟨rfl,aS.out⟩
 ·rw[if_neg h1];have h8:¬(8:Int)<(x.to.size:Int):=by omega
  clear h1;go_enter Tryz.func72,Tryz.ntmps72;go_wp2;go_ret;exact⟨rfl,aS.out⟩
theorem aaN:Calls Tryz.prog 72 #[aK x,.int .u8 83] w fun e w'=>e=.returned (.int .i64 (aT x 83))/\Kept aj w w':=by
 obtain⟨W0,hW0⟩:∃W0,w.alloc (.cells (au x).toArray 63)=W0:=⟨_,rfl⟩;have hk0:Kept aj w W0:=by rw[<-hW0];(repeat'(first|(with_reducible first|exact ay|apply aA|apply aB|apply aC|apply aF)|(right;simp;done)))
 have hn0:Has W0 w.heap.size 63 (au x).toArray:=by rw[<-hW0];exact Has.new _ _ _
 have q:W0.cell? ⟨w.heap.size,20,none⟩=some (.slice x.sA x.ss.length x.sc):=hn0.cell 20;have hw:aT x 83=if 8<x.ss.length then 6 else 0:=rfl;rw[hw];have aS:=ah hk0;clear hk0 hn0 hw;by_cases h1:8<x.ss.length
 ·rw[if_pos h1];have h8:(8:Int)<(x.ss.length:Int):=by omega
  clear h1;go_enter Tryz.func72,Tryz.ntmps72;go_wp2;go_ret;exact⟨rfl,aS.out⟩
 ·rw[if_neg h1];have h8:¬(8:Int)<(x.ss.length:Int):=by omega
  clear h1;go_enter Tryz.func72,Tryz.ntmps72;go_wp2;go_ret;exact⟨rfl,aS.out⟩
theorem aaO:Calls Tryz.prog 72 #[aK x,.int .u8 97] w fun e w'=>e=.returned (.int .i64 (aT x 97))/\Kept aj w w':=by
 obtain⟨W0,hW0⟩:∃W0,w.alloc (.cells (au x).toArray 63)=W0:=⟨_,rfl⟩;have hk0:Kept aj w W0:=by rw[<-hW0];(repeat'(first|(with_reducible first|exact ay|apply aA|apply aB|apply aC|apply aF)|(right;simp;done)))
 have hn0:Has W0 w.heap.size 63 (au x).toArray:=by rw[<-hW0];exact Has.new _ _ _
 have aS:=ah hk0;clear hk0 hn0;have hw:aT x 97=0:=rfl;rw[hw];clear hw;go_enter Tryz.func72,Tryz.ntmps72;go_wp2;go_ret;exact⟨rfl,aS.out⟩
theorem ZF:Calls Tryz.prog 72 #[aK x,.int .u8 108] w fun e w'=>e=.returned (.int .i64 (aT x 108))/\Kept aj w w':=by
 obtain⟨W0,hW0⟩:∃W0,w.alloc (.cells (au x).toArray 63)=W0:=⟨_,rfl⟩;have hk0:Kept aj w W0:=by rw[<-hW0];(repeat'(first|(with_reducible first|exact ay|apply aA|apply aB|apply aC|apply aF)|(right;simp;done)))
 have hn0:Has W0 w.heap.size 63 (au x).toArray:=by rw[<-hW0];exact Has.new _ _ _
 have aS:=ah hk0;clear hk0 hn0;have hw:aT x 108=0:=rfl;rw[hw];clear hw;go_enter Tryz.func72,Tryz.ntmps72;go_wp2;go_ret;exact⟨rfl,aS.out⟩
theorem ZG:Calls Tryz.prog 72 #[aK x,.int .u8 102] w fun e w'=>e=.returned (.int .i64 (aT x 102))/\Kept aj w w':=by
 obtain⟨W0,hW0⟩:∃W0,w.alloc (.cells (au x).toArray 63)=W0:=⟨_,rfl⟩;have hk0:Kept aj w W0:=by rw[<-hW0];(repeat'(first|(with_reducible first|exact ay|apply aA|apply aB|apply aC|apply aF)|(right;simp;done)))
 have hn0:Has W0 w.heap.size 63 (au x).toArray:=by rw[<-hW0];exact Has.new _ _ _
 have aS:=ah hk0;clear hk0 hn0;have hw:aT x 102=0:=rfl;rw[hw];clear hw;go_enter Tryz.func72,Tryz.ntmps72;go_wp2;go_ret;exact⟨rfl,aS.out⟩
theorem aaP(hm:Src w 2 x.mA x.ms.length (dL x.ms))(hl:x.ms.length<=1000000):Calls Tryz.prog 72 #[aK x,.int .u8 67] w fun e w'=>e=.returned (.int .i64 (aT x 67))/\Kept aj w w':=by
 obtain⟨W0,hW0⟩:∃W0,w.alloc (.cells (au x).toArray 63)=W0:=⟨_,rfl⟩;have hk0:Kept aj w W0:=by rw[<-hW0];(repeat'(first|(with_reducible first|exact ay|apply aA|apply aB|apply aC|apply aF)|(right;simp;done)))
 have hn0:Has W0 w.heap.size 63 (au x).toArray:=by rw[<-hW0];exact Has.new _ _ _
 have q1:W0.cell? ⟨w.heap.size,13,none⟩=some (.int .i64 x.fO):=hn0.cell 13;have q2:W0.cell? ⟨w.heap.size,14,none⟩=some (.slice x.mA x.ms.length x.mc):=hn0.cell 14;have q3:W0.cell? ⟨w.heap.size,15,none⟩=some (.int .u64 x.mG):=hn0.cell 15;have hc:=bg.ng W0 x.fO x.mG x.mA x.mc x.ms (hm.kept hk0 (fun _ _ z=>z)) hl;have hw:aT x 67=bg.chk x.fO x.ms:=rfl;rw[hw];obtain⟨z,hz⟩:∃z,bg.chk x.fO x.ms=z:=⟨_,rfl⟩;rw[hz]at hc⊢;have HC:=ah hc;have aS:=ah hk0;clear hk0 hn0 hc hw hz hm hl;go_enter Tryz.func72,Tryz.ntmps72;go_wp2_with fail;refine HC.out.mono ?_;rintro e w3 ⟨rfl,hk⟩;have HK:=ah (aS.out.then hk);clear hk;go_wp2;go_ret;exact⟨rfl,HK.out⟩
theorem aaQ(hs:Src w 3 x.oA x.ops.length (cells x.ops))(hcap:x.ops.length<=x.oc):Calls Tryz.prog 72 #[aK x,.int .u8 66] w fun e w'=>e=.returned (.int .i64 (aT x 66))/\Kept aj w w':=by
 obtain⟨W0,hW0⟩:∃W0,w.alloc (.cells (au x).toArray 63)=W0:=⟨_,rfl⟩;have hk0:Kept aj w W0:=by rw[<-hW0];(repeat'(first|(with_reducible first|exact ay|apply aA|apply aB|apply aC|apply aF)|(right;simp;done)))
 have hn0:Has W0 w.heap.size 63 (au x).toArray:=by rw[<-hW0];exact Has.new _ _ _
 have q1:W0.cell? ⟨w.heap.size,16,none⟩=some (.int .i64 x.o7):=hn0.cell 16;have q2:W0.cell? ⟨w.heap.size,17,none⟩=some (.int .i64 x.lK):=hn0.cell 17;have q3:W0.cell? ⟨w.heap.size,18,none⟩=some (.slice x.oA x.ops.length x.oc):=hn0.cell 18;have hc:=Ops.ng W0 (jU x) x.oA x.oc (hs.kept hk0 (fun _ _ z=>z)) hcap;have hw:aT x 66=Ops.chk (jU x):=rfl;rw[hw];obtain⟨z,hz⟩:∃z,Ops.chk (jU x)=z:=⟨_,rfl⟩;rw[hz]at hc⊢;dsimp only[nT,jU]at hc;have HC:=ah hc;have aS:=ah hk0;clear hk0 hn0 hc hw hz hs hcap;go_enter Tryz.func72,Tryz.ntmps72;go_wp2_with fail;refine HC.out.mono ?_;rintro e w3 ⟨rfl,hk⟩;have HK:=ah (aS.out.then hk);clear hk;go_wp2;go_ret;exact⟨rfl,HK.out⟩
end
theorem Nq(w:World)(b:Batch)(A:Option Addr)(c:Nat)(ts:Int)(hs:Src w 3 A b.ops.length (cells b.ops))(hcap:b.ops.length<=c):Calls Tryz.prog 150 #[.agg #[.int .i64 b.cl,.int .i64 b.req,.slice A b.ops.length c,.int .u64 ts]] w fun e w'=>e=.returned (.int .i64 (Ops.chk b))/\Kept aj w w':=by
 obtain⟨W0,hW0⟩:∃W0,w.alloc (.cells #[.int .i64 b.cl,.int .i64 b.req,.slice A b.ops.length c,.int .u64 ts] 183)=W0:=⟨_,rfl⟩;have hk0:Kept aj w W0:=by rw[<-hW0];(repeat'(first|(with_reducible first|exact ay|apply aA|apply aB|apply aC|apply aF)|(right;simp;done)))
 have hn0:Has W0 w.heap.size 183 #[.int .i64 b.cl,.int .i64 b.req,.slice A b.ops.length c,.int .u64 ts]:=by rw[<-hW0];exact Has.new _ _ _
 have q1:W0.cell? ⟨w.heap.size,0,none⟩=some (.int .i64 b.cl):=hn0.cell 0;have q2:W0.cell? ⟨w.heap.size,1,none⟩=some (.int .i64 b.req):=hn0.cell 1;have q3:W0.cell? ⟨w.heap.size,2,none⟩=some (.slice A b.ops.length c):=hn0.cell 2;have hc:=Ops.ng W0 b A c (hs.kept hk0 (fun _ _ z=>z)) hcap;obtain⟨z,hz⟩:∃z,Ops.chk b=z:=⟨_,rfl⟩;rw[hz]at hc⊢;dsimp only[nT]at hc;have HC:=ah hc;have aS:=ah hk0;clear hk0 hn0 hc hz hs hcap;go_enter Tryz.func150,Tryz.ntmps150;go_wp2_with fail;refine HC.out.mono ?_;rintro e w3 ⟨rfl,hk⟩;have HK:=ah (aS.out.then hk);clear hk;go_wp2;go_ret;exact⟨rfl,HK.out⟩
theorem Lm(w:World)(A:Option Addr)(c:Nat)(l:List iM)(hl:Src w 4 A l.length (kM l))(hlen:l.length<=1000000)(ho:∀y∈l,Src w 3 y.A y.ops.length (cells y.ops)/\y.ops.length<=y.c):
  Calls Tryz.prog 114 #[.slice A l.length c] w fun e w'=>e=.returned (.int .i64 (if 4<l.length then 6 else bK (fun y=>Ops.chk (lZ y)) l))/\Kept aj w w':=by
 have HL:=ah hl;clear hl;have hcall:=fun W (hW:Kept aj w W) y (hy:y∈l)=>Nq W (lZ y) y.A y.c y.ts ((ho y hy).1.kept hW (fun _ _ z=>z)) (ho y hy).2;have GK:=ah hcall;clear hcall ho;by_cases h4:4<l.length
 ·rw[if_pos h4];have h8:(4:Int)<(l.length:Int):=by omega
  clear h4;go_enter Tryz.func114,Tryz.ntmps114;go_wp2;go_ret;exact⟨rfl,Kept.refl _ _⟩
 rw[if_neg h4];have h8:¬(4:Int)<(l.length:Int):=by omega
 obtain⟨r,hr⟩:∃r,bK (fun y=>Ops.chk (lZ y)) l=r:=⟨_,rfl⟩;rw[hr];have HR:=ah hr;clear hr h4;go_enter Tryz.func114,Tryz.ntmps114;go_wp2_with fail;clear h8;go_loopw [3] (fun v3 wr=>∃i:Nat,i<=l.length/\v3=.int .i64 i/\r=bK (fun y=>Ops.chk (lZ y)) (l.drop i)/\Kept aj w wr) (fun v3 _=>l.length-(intOf v3).toNat)
 case atStart=>exact⟨0,Nat.zero_le _,rfl,HR.out.symm,Kept.refl _ _⟩
 case round=>
  obtain⟨i,hi,rfl,hrr,hk⟩:=hrel;have HK:=ah hk;clear hk;by_cases hil:i<l.length
  ·obtain⟨y,hy⟩:∃y,l[i]? =some y:=⟨_,lB0 hil⟩;obtain⟨ad,rfl,hl1,e0,e1,e2,e3⟩:=Dx (HL.out.kept HK.out (fun _ _ z=>z)) (by omega) i y hy;have hsa:=uG (fun y=>Ops.chk (lZ y)) hy;have hcall:=GK.out wr HK.out y (lC0 hy);rw[hsa]at hrr;obtain⟨t,ht⟩:∃t,Ops.chk (lZ y)=t:=⟨_,rfl⟩;rw[ht]at hcall hrr;dsimp only[lZ]at hcall;have HC:=ah hcall;have HRR:=ah hrr;clear hsa ht hy hcall hrr;go_wp2_with fail;refine HC.out.mono ?_;rintro e w5 ⟨rfl,hk0⟩;have dK:=ah (HK.out.then hk0);clear hk0;by_cases h0:t=0
   ·subst h0;have hrf:=HRR.out;rw[if_pos rfl]at hrf;have jl:=ah hrf;clear hrf HRR;go_wp2;go_roundw
    case rel=>exact⟨i+1,by omega,by go_num,jl.out,dK.out⟩
    case measure=>simp[intOf];omega
   ·have hrf:=HRR.out;rw[if_neg h0]at hrf;have jl:=ah hrf;clear hrf HRR;have h2:(t !=0)=true:=by simpa using h0
    clear h0;go_wp2;go_ret;exact⟨by rw[jl.out];rfl,dK.out⟩
  ·obtain rfl:i=l.length:=by omega
   rw[List.drop_length,bK]at hrr;have HRR:=ah hrr;clear hrr;go_wp2;go_ret;exact⟨by rw[HRR.out];rfl,HK.out⟩
theorem Pm(w:World)(A:Option Addr)(c:Nat)(l:List iC)(hl:Src w 2 A l.length (bI l))(hlen:l.length<=1000000):
  Calls Tryz.prog 115 #[.slice A l.length c] w fun e w'=>e=.returned (.int .i64 (if 32<l.length then 6 else bK mY l))/\Kept aj w w':=by
 have HL:=ah hl;clear hl;by_cases h4:32<l.length
 ·rw[if_pos h4];have h8:(32:Int)<(l.length:Int):=by omega
  clear h4;go_enter Tryz.func115,Tryz.ntmps115;go_wp2;go_ret;exact⟨rfl,Kept.refl _ _⟩
 rw[if_neg h4];have h8:¬(32:Int)<(l.length:Int):=by omega
 obtain⟨r,hr⟩:∃r,bK mY l=r:=⟨_,rfl⟩;rw[hr];have HR:=ah hr;clear hr h4;go_enter Tryz.func115,Tryz.ntmps115;go_wp2_with fail;clear h8;go_loopw [3] (fun v3 wr=>∃i:Nat,i<=l.length/\v3=.int .i64 i/\r=bK mY (l.drop i)/\Kept aj w wr) (fun v3 _=>l.length-(intOf v3).toNat)
 case atStart=>exact⟨0,Nat.zero_le _,rfl,HR.out.symm,Kept.refl _ _⟩
 case round=>
  obtain⟨i,hi,rfl,hrr,hk⟩:=hrel;have HK:=ah hk;clear hk;by_cases hil:i<l.length
  ·obtain⟨y,hy⟩:∃y,l[i]? =some y:=⟨_,lB0 hil⟩;obtain⟨ad,rfl,hl1,e0,e1⟩:=pair_cells (HL.out.kept HK.out (fun _ _ z=>z)) (by omega) i y hy;have hsa:=uG mY hy;rw[hsa]at hrr;have hkc:=Be y.key;unfold mY at hrr;change∀w:World,Calls Tryz.prog 117 #[.string y.key] w fun e w'=>e=.returned (.int .i64 (keyE y.key))/\w=w' at hkc;have hk10:keyE y.key=0\/keyE y.key=10:=by unfold keyE;split;exact .inr rfl;exact .inl rfl
   obtain⟨t,ht⟩:∃t,keyE y.key=t:=⟨_,rfl⟩;rw[ht]at hkc hrr hk10;have HC:=ah hkc;have HRR:=ah hrr;clear hsa ht hy hkc hrr;go_wp2_with fail;refine(HC.out _).mono ?_;rintro e w5 ⟨rfl,rfl⟩;rcases hk10 with rfl|rfl
   ·have hrf:=HRR.out;rw[if_neg (show¬((0:Int)≠0)from fun h=>h rfl)]at hrf;have jl:=ah hrf;clear hrf HRR;by_cases h1:8<y.val.size
    ·have hrf:=jl.out;rw[if_pos h1]at hrf;have jl:=ah hrf;clear hrf;have h2:(8:Int)<(y.val.size:Int):=by omega
     clear h1;go_wp2;go_ret;exact⟨by rw[jl.out];rfl,by(repeat'(first|(with_reducible first|exact ay|apply aA|apply aB|apply aC|apply aF)|(exact HK.out)|(right;simp;done)))⟩
    ·have hrf:=jl.out;rw[if_neg h1]at hrf;have jl:=ah hrf;clear hrf;have h2:¬(8:Int)<(y.val.size:Int):=by omega
     clear h1;go_wp2;go_roundw
     case rel=>exact⟨i+1,by omega,by go_num,jl.out,by(repeat'(first|(with_reducible first|exact ay|apply aA|apply aB|apply aC|apply aF)|(exact HK.out)|(right;simp;done)))⟩
     case measure=>simp[intOf];omega
   ·have hrf:=HRR.out;rw[if_pos (show(10:Int)≠0 by decide),if_neg (show¬(10:Int)=0 by decide)]at hrf;have jl:=ah hrf;clear hrf HRR;go_wp2;go_ret;exact⟨by rw[jl.out];rfl,by(repeat'(first|(with_reducible first|exact ay|apply aA|apply aB|apply aC|apply aF)|(exact HK.out)|(right;simp;done)))⟩
  ·obtain rfl:i=l.length:=by omega
   rw[List.drop_length,bK]at hrr;have HRR:=ah hrr;clear hrr;go_wp2;go_ret;exact⟨by rw[HRR.out];rfl,HK.out⟩
section
variable(w:World)(x:aO)
theorem aaR(hl:Src w 4 x.eA x.es.length (kM x.es))(hlen:x.es.length<=1000000)(ho:∀y∈x.es,Src w 3 y.A y.ops.length (cells y.ops)/\y.ops.length<=y.c):Calls Tryz.prog 72 #[aK x,.int .u8 69] w fun e w'=>e=.returned (.int .i64 (aT x 69))/\Kept aj w w':=by
 obtain⟨W0,hW0⟩:∃W0,w.alloc (.cells (au x).toArray 63)=W0:=⟨_,rfl⟩;have hk0:Kept aj w W0:=by rw[<-hW0];(repeat'(first|(with_reducible first|exact ay|apply aA|apply aB|apply aC|apply aF)|(right;simp;done)))
 have hn0:Has W0 w.heap.size 63 (au x).toArray:=by rw[<-hW0];exact Has.new _ _ _
 have q1:W0.cell? ⟨w.heap.size,19,none⟩=some (.slice x.eA x.es.length x.ec):=hn0.cell 19;have hc:=Lm W0 x.eA x.ec x.es (hl.kept hk0 (fun _ _ z=>z)) hlen (fun y hy=>⟨(ho y hy).1.kept hk0 (fun _ _ z=>z),(ho y hy).2⟩);have hw:aT x 69=(if 4<x.es.length then 6 else bK (fun y=>Ops.chk (lZ y)) x.es):=rfl;rw[hw];obtain⟨z,hz⟩:∃z:Int,(if 4<x.es.length then (6:Int)else bK (fun y=>Ops.chk (lZ y)) x.es)=z:=⟨_,rfl⟩;rw[hz]at hc⊢;have HC:=ah hc;have aS:=ah hk0;clear hk0 hn0 hc hw hz hl ho;go_enter Tryz.func72,Tryz.ntmps72;go_wp2_with fail;refine HC.out.mono ?_;rintro e w3 ⟨rfl,hk⟩;have HK:=ah (aS.out.then hk);clear hk;go_wp2;go_ret;exact⟨rfl,HK.out⟩
theorem aaS(hl:Src w 2 x.pA x.ps.length (bI x.ps))(hlen:x.ps.length<=1000000):Calls Tryz.prog 72 #[aK x,.int .u8 82] w fun e w'=>e=.returned (.int .i64 (aT x 82))/\Kept aj w w':=by
 obtain⟨W0,hW0⟩:∃W0,w.alloc (.cells (au x).toArray 63)=W0:=⟨_,rfl⟩;have hk0:Kept aj w W0:=by rw[<-hW0];(repeat'(first|(with_reducible first|exact ay|apply aA|apply aB|apply aC|apply aF)|(right;simp;done)))
 have hn0:Has W0 w.heap.size 63 (au x).toArray:=by rw[<-hW0];exact Has.new _ _ _
 have q1:W0.cell? ⟨w.heap.size,21,none⟩=some (.slice x.pA x.ps.length x.pc):=hn0.cell 21;have hc:=Pm W0 x.pA x.pc x.ps (hl.kept hk0 (fun _ _ z=>z)) hlen;have hw:aT x 82=(if 32<x.ps.length then 6 else bK mY x.ps):=rfl;rw[hw];obtain⟨z,hz⟩:∃z:Int,(if 32<x.ps.length then (6:Int)else bK mY x.ps)=z:=⟨_,rfl⟩;rw[hz]at hc⊢;have HC:=ah hc;have aS:=ah hk0;clear hk0 hn0 hc hw hz hl;go_enter Tryz.func72,Tryz.ntmps72;go_wp2_with fail;refine HC.out.mono ?_;rintro e w3 ⟨rfl,hk⟩;have HK:=ah (aS.out.then hk);clear hk;go_wp2;go_ret;exact⟨rfl,HK.out⟩
theorem ZH{B:Nat}(h:dF w B x){c:Nat}(hc:c∈letters):Calls Tryz.prog 72 #[aK x,.int .u8 c] w fun e w'=>e=.returned (.int .i64 (aT x c))/\Kept aj w w':=by
 unfold letters at hc;simp only[List.mem_cons,List.not_mem_nil,or_false]at hc;rcases hc with rfl|rfl|rfl|rfl|rfl|rfl|rfl|rfl|rfl|rfl|rfl|rfl|rfl|rfl|rfl|rfl|rfl
 ·exact aaP w x h.m (by have:=h.ml;omega)
 ·exact aaO w x
 ·exact Zw w x
 ·exact Zx w x
 ·exact ZG w x
 ·exact ZF w x
 ·exact Zz w x
 ·exact ZA w x
 ·exact ZB w x
 ·exact Zy w x
 ·exact aaR w x h.e (by have:=h.el;omega) (fun y hy=>⟨(h.eo y hy).1,(h.eo y hy).2.1⟩)
 ·exact aaN w x
 ·exact aaQ w x h.o h.oc
 ·exact ZC w x
 ·exact ZD w x
 ·exact ZE w x
 ·exact aaS w x h.p (by have:=h.pl;omega)
theorem Lp{k:Int}(h:isKind k=true):Calls Tryz.prog 37 #[.int .i64 k] w fun e w'=>e=.returned (.string (lets (partsOf k)))/\Kept aj w w':=by
 have h0:1<=k/\k<=15:=of_decide_eq_true h;clear h;have h1:k=1\/k=2\/k=3\/k=4\/k=5\/k=6\/k=7\/k=8\/k=9\/k=10\/k=11\/k=12\/k=13\/k=14\/k=15:=by omega
 clear h0;rcases h1 with rfl|rfl|rfl|rfl|rfl|rfl|rfl|rfl|rfl|rfl|rfl|rfl|rfl|rfl|rfl
 all_goals
  go_enter Tryz.func37,Tryz.ntmps37
  go_wp2
  go_ret
  exact⟨rfl,by(repeat'(first|(with_reducible first|exact ay|apply aA|apply aB|apply aC|apply aF)|(right;simp;done)))⟩
theorem X8:Calls Tryz.prog 37 #[.int .i64 0] w fun e w'=>e=.returned (.string ⟨#[63]⟩)/\Kept aj w w':=by go_enter Tryz.func37,Tryz.ntmps37;go_wp2;go_ret;exact⟨rfl,by(repeat'(first|(with_reducible first|exact ay|apply aA|apply aB|apply aC|apply aF)|(right;simp;done)))⟩
end
theorem abr{k:Int}(h:isKind k=true):((lets (partsOf k)).toList==[63])=false:=by
 have e:(lets (partsOf k)).toList=kX (partsOf k):=by rw[Lib.toList_data];exact lH _
 rw[e];have h0:1<=k/\k<=15:=of_decide_eq_true h;have h1:k=1\/k=2\/k=3\/k=4\/k=5\/k=6\/k=7\/k=8\/k=9\/k=10\/k=11\/k=12\/k=13\/k=14\/k=15:=by omega
 clear h0 h e;rcases h1 with rfl|rfl|rfl|rfl|rfl|rfl|rfl|rfl|rfl|rfl|rfl|rfl|rfl|rfl|rfl<;>decide
attribute [local go_sem] ni
theorem SY(w:World)(x:aO){B:Nat}(h:dF w B x)(hkd:isKind x.k=true):Calls Tryz.prog 40 #[aK x] w fun e w'=>e=.returned (.int .i64 (dP x))/\Kept aj w w':=by
 have hz:dP x=bK (aT x) (partsOf x.k):=by unfold dP;rw[if_pos hkd]
 rw[hz];obtain⟨W0,hW0⟩:∃W0,w.alloc (.cells (au x).toArray 63)=W0:=⟨_,rfl⟩;have hk0:Kept aj w W0:=by rw[<-hW0];(repeat'(first|(with_reducible first|exact ay|apply aA|apply aB|apply aC|apply aF)|(right;simp;done)))
 have hn0:Has W0 w.heap.size 63 (au x).toArray:=by rw[<-hW0];exact Has.new _ _ _
 have q:W0.cell? ⟨w.heap.size,0,none⟩=some (.int .i64 x.k):=hn0.cell 0;have hp:=Lp W0 hkd;have hin:=rP x.k;have hq:=abr hkd;obtain⟨l,hl⟩:∃l,partsOf x.k=l:=⟨_,rfl⟩;rw[hl]at hp hin hq⊢;have hcall:∀W,Kept aj W0 W->∀c∈l,Calls Tryz.prog 72 #[aK x,.int .u8 c] W fun e w'=>e=.returned (.int .i64 (aT x c))/\Kept aj W w':=fun W hW c hc=>ZH W x (h.kept (hk0.then hW) (fun _ z=>z.elim)) (hin c hc);have hsm:∀c∈l,c<256:=fun c hc=>by have:=hin c hc;unfold letters at this;simp only[List.mem_cons,List.not_mem_nil,or_false]at this;omega
 have hsz:=wS l;have hll:l.length<=7:=by rw[<-hl];exact pV _
 obtain⟨p,hp0⟩:∃p,lets l=p:=⟨_,rfl⟩;have hix:∀(i c:Nat),l[i]? =some c->∀W,(Instr.index 9 (.string p) (.int .i64 i)).run Tryz.prog W=.ok (.int .u8 c) W:=fun i c hc W=>by obtain⟨hi,e⟩:=Cm hsm hc;rw[<-hp0,run_index_string W 9 (lets l) .i64 i (by rfl),dif_pos ⟨by omega,by omega⟩];simp only[Int.toNat_natCast,e]
 rw[hp0]at hp hsz hq;have HP:=ah hp;have HC:=ah hcall;have KL:=ah hix;have aS:=ah hk0;have dZ:=ah hn0;have sH:=ah hsz;obtain⟨rr,hrr⟩:∃rr,bK (aT x) l=rr:=⟨_,rfl⟩;rw[hrr];have HRR:=ah hrr;clear hrr hz;obtain⟨cs,hcs⟩:∃cs,(au x).toArray=cs:=⟨_,rfl⟩;have FK:=dZ;unfold aK at HC⊢;rw[hcs]at hW0 HC dZ⊢;have dV:=ah hcs;clear hcs;clear hp hcall hix hk0 hn0 hin hsm hl h hp0 hsz;go_enter Tryz.func40,Tryz.ntmps40;go_wp2_with fail;clear hW0;refine HP.out.mono ?_;rintro e w2 ⟨rfl,hk⟩;have gJ:=ah hk;clear hk q;go_wp2_with fail;go_loopw [4] (fun v4 wr=>∃i:Nat,i<=l.length/\v4=.int .i64 i/\rr=bK (aT x) (l.drop i)/\Kept aj W0 wr) (fun v4 _=>l.length-(intOf v4).toNat)
 case atStart=>exact⟨0,Nat.zero_le _,rfl,HRR.out.symm,by(repeat'(first|(with_reducible first|exact ay|apply aA|apply aB|apply aC|apply aF)|(exact gJ.out)|(right;simp;done)))⟩
 case round=>
  obtain⟨i,hi,rfl,hr1,hk⟩:=hrel;have HK:=ah hk;clear hk;have hsz:=sH.out;by_cases hil:i<l.length
  ·obtain⟨c,hc⟩:∃c,l[i]? =some c:=⟨_,lB0 hil⟩;have g1:(i:Int)<(p.size:Int):=by omega
   have hix:=KL.out i c hc;rw[uG (aT x) hc]at hr1;have hcc:=HC.out wr.drew HK.out.drew c (lC0 hc);obtain⟨u1,u2⟩:=dD (FK.out.kept HK.out.drew (fun z=>z));obtain⟨v1,v2⟩:=dD (FK.out.kept HK.out (fun z=>z));rw[dV.out]at u2 v2;obtain⟨t,ht⟩:∃t,aT x c=t:=⟨_,rfl⟩;rw[ht]at hcc hr1;have HR1:=ah hr1;clear hr1 ht;have Gz:=ah hcc;have U4:=ah hix;clear hc hcc hsz;go_wp2
   go_region_held3 (fun W=>fD W ⟨w.heap.size,0,none⟩/\eX W ⟨w.heap.size,0,none⟩=cs) (first|with_reducible exact⟨u1,u2⟩|with_reducible exact⟨v1,v2⟩|with_reducible exact hix _|exact⟨u1,u2⟩)
    (first|(go_at_call 72;refine Gz.out.mono ?_;rintro e w5 ⟨rfl,hk5⟩;obtain⟨u1,u2⟩:=dD (FK.out.kept (HK.out.drew.then hk5) (fun z=>z));rw[dV.out]at u2;have dK:=ah hk5;clear hk5))
   all_goals
    by_cases h0:t=0
    ·subst h0;have hrf:=HR1.out;rw[if_pos rfl]at hrf;have jl:=ah hrf;clear hrf;go_wp2;go_roundw
     case rel=>exact⟨i+1,by omega,by go_num,jl.out,HK.out.drew.then dK.out⟩
     case measure=>simp[intOf];omega
    ·have hrf:=HR1.out;rw[if_neg h0]at hrf;have jl:=ah hrf;clear hrf;have h2:(t !=0)=true:=by simpa using h0
     clear h0;go_wp2;go_ret;exact⟨by rw[jl.out];rfl,aS.out.then (HK.out.drew.then dK.out)⟩
  ·have hie:i=l.length:=by omega
   have g1:¬(i:Int)<(p.size:Int):=by omega
   clear hsz;go_wp2;go_ret;exact⟨by first|rfl|(rw[hr1,hie,List.drop_length];rfl),aS.out.then HK.out⟩
