import Derived.Test.YtalhpbilkhdfhaaDoorTRTg
import Derived.Test.YtalhpbilkhdfhaaDoorTRTf
import Derived.Shelf.Strconv.Itoa0
import Derived.Test.YtalhpbilkhdfhaaDoorProg
import Derived.Shelf.Spec.TrailingZeros
import Derived.Test.YtalhpbilkhdfhaaDoorTRTi
import Derived.Deep.QuietTactic
import Derived.BigQuiet
namespace Go.Proofs.YtalhpbilkhdfhaaDoor
open Go Go.RowKit GFl
set_option maxRecDepth 100000
attribute [local go_sem] run_f64bits run_f64frombits run_neg_f64
def fabs (x:Nat):Nat:=rg x
theorem fabs_w (x:Nat):W64 (fabs x):=W64.mk (by unfold fabs;rw [rg_eq];omega)
theorem fabs_rg (x:Nat):rg (fabs x)=rg x:=by unfold fabs;rw [rg_eq,rg_eq];omega
theorem fabs_neg (x:Nat):neg (fabs x)=false:=by unfold fabs;rw [neg_eq,rg_eq];simp;omega
theorem fabs_isn (x:Nat):isn (fabs x)=isn x:=by rw [isn_eq,isn_eq,fabs_rg]
theorem fabs_plc (x:Nat):plc (fabs x)=rg x:=by rw [plc_eq,fabs_rg,fabs_neg];rfl
theorem abs_c (x:Nat) (hx:W64 x) (w:World):Calls Tryd.prog 14 #[.float .f64 x] w fun e w'=>e=.returned (.float .f64 (fabs x))∧w'=w:=by
  have e:(bits BinOp.andNot IntKind.u64 (↑x) 9223372036854775808).toNat=fabs x:=by
    have h:=hx.lt
    have:=u64_andNot_nat x 9223372036854775808 h (by decide)
    rw [show ((9223372036854775808:Nat):Int)=9223372036854775808 from rfl] at this
    rw [this,fabs,rg_eq]
    show x &&& (2 ^ 63 - 1)=x % 2 ^ 63
    exact Nat.and_two_pow_sub_one_eq_mod x 63
  have E:=Lib.hid e
  clear e
  go_enter Tryd.func14,Tryd.ntmps14
  go_wp2
  go_ret
  exact ⟨ret_float E.out,rfl⟩
theorem wrap64_neg {x:Nat} (hx:W64 x):decide (wrap64 (x:Int) < 0)=neg x:=by
  have h:=hx.lt
  rw [neg_eq,decide_eq_decide]
  unfold wrap64
  omega
theorem signbit_c (x:Nat) (hx:W64 x) (w:World):Calls Tryd.prog 19 #[.float .f64 x] w fun e w'=>e=.returned (.bool (neg x))∧w'=w:=by
  go_enter Tryd.func19,Tryd.ntmps19
  go_wp2
  go_ret
  exact ⟨ret_bool (wrap64_neg hx),rfl⟩
theorem isNaN_c (x:Nat) (hx:W64 x) (w:World):Calls Tryd.prog 36 #[.float .f64 x] w fun e w'=>e=.returned (.bool (isn x))∧w'=w:=by
  go_enter Tryd.func36,Tryd.ntmps36
  go_wp2
  go_ret
  exact ⟨ret_bool (o_ne_self hx),rfl⟩
def infS (x:Nat) (s:Int):Bool:=decide (rg x=9218868437227405312) && (decide (s=0) || decide (s < 0) && neg x || decide (0 < s) && !neg x)
theorem gt_max {x:Nat} (hx:W64 x):(FloatKind.f64.format.order x 9218868437227405311 == some .gt)=(decide (rg x=9218868437227405312) && !neg x):=by
  have h1:=o_gt hx (W64.mk (by decide:9218868437227405311 < 18446744073709551616))
  refine h1.trans ?_
  rw [isn_eq,isn_eq,plc_eq,plc_eq,neg_eq 9218868437227405311,rg_eq 9218868437227405311]
  generalize rg x=r
  cases neg x
  · simp only [Bool.false_eq_true,if_false,Bool.not_false,Bool.and_true]
    rw [Bool.eq_iff_iff];simp;omega
  · simp only [if_true,Bool.not_true,Bool.and_false]
    rw [Bool.eq_false_iff];simp
theorem isInf_c (x:Nat) (s:Int) (hx:W64 x) (w:World):Calls Tryd.prog 21 #[.float .f64 x,.int .i64 s] w fun e w'=>e=.returned (.bool (infS x s))∧w'=w:=by
  have e1:s=0→(FloatKind.f64.format.order (fabs x) 9218868437227405311 == some .gt)=infS x s:=by
    intro h;subst h;rw [gt_max (fabs_w x),fabs_rg,fabs_neg];simp [infS]
  have e2:s < 0→(FloatKind.f64.format.order (fneg x) 9218868437227405311 == some .gt)=infS x s:=by
    intro h;rw [gt_max (fneg_w hx),fneg_rg hx,fneg_neg hx];have h1:¬ s=0:=by omega
    have h2:¬ 0 < s:=by omega
    simp [infS,h,h1,h2]
  have e3:0 < s→(FloatKind.f64.format.order x 9218868437227405311 == some .gt)=infS x s:=by
    intro h;rw [gt_max hx];have h1:¬ s=0:=by omega
    have h2:¬ s < 0:=by omega
    simp [infS,h,h1,h2]
  have E1:=Lib.hid e1
  have E2:=Lib.hid e2
  have E3:=Lib.hid e3
  clear e1 e2 e3
  by_cases h0:s=0
  · have h:(s == 0)=true:=by simp [h0]
    have H0:=Lib.hid h0
    clear h0
    go_enter Tryd.func21,Tryd.ntmps21
    go_wp2_with (go_at_call 14;refine (abs_c _ hx _).mono ?_;rintro e w' ⟨rfl,rfl⟩)
    go_ret
    exact ⟨ret_bool (E1.out H0.out),rfl⟩
  · have h:(s == 0)=false:=by simp [h0]
    clear h0
    by_cases h1:s < 0
    · go_enter Tryd.func21,Tryd.ntmps21
      go_wp2
      go_ret
      exact ⟨ret_bool (E2.out h1),rfl⟩
    · go_enter Tryd.func21,Tryd.ntmps21
      go_wp2
      go_ret
      exact ⟨ret_bool (E3.out (by simp at h;omega)),rfl⟩
def csgn (x y:Nat):Nat:=wd (neg y) (rg x)
theorem u64_lo {x:Nat} (hx:x < 18446744073709551616):bits BinOp.andNot IntKind.u64 (↑x) 9223372036854775808=((x % 9223372036854775808:Nat):Int):=by
  have:=u64_andNot_nat x 9223372036854775808 hx (by decide)
  rw [show ((9223372036854775808:Nat):Int)=9223372036854775808 from rfl] at this
  rw [this]
  congr 1
  show x &&& (2 ^ 63 - 1)=x % 2 ^ 63
  exact Nat.and_two_pow_sub_one_eq_mod x 63
theorem u64_hi {x:Nat} (hx:x < 18446744073709551616):bits BinOp.and IntKind.u64 (↑x) 9223372036854775808=((if 9223372036854775808≤x then 9223372036854775808 else 0:Nat):Int):=by
  have:=u64_and_nat x 9223372036854775808 hx (by decide)
  rw [show ((9223372036854775808:Nat):Int)=9223372036854775808 from rfl] at this
  rw [this]
  congr 1
  show x &&& 2 ^ 63=_
  have h63:x.testBit 63=decide (9223372036854775808≤x):=by
    rw [Nat.testBit_eq_decide_div_mod_eq,decide_eq_decide];omega
  apply Nat.eq_of_testBit_eq
  intro i
  rw [Nat.testBit_and,Nat.testBit_two_pow]
  by_cases hi:63=i
  · subst hi
    rw [h63]
    by_cases h:9223372036854775808≤x
    · simp only [h,decide_true,if_true];decide
    · simp [h]
  · simp only [hi,decide_false,Bool.and_false]
    by_cases h:9223372036854775808≤x
    · simp only [h,if_true]
      rw [show (9223372036854775808:Nat)=2 ^ 63 from rfl,Nat.testBit_two_pow];simp [hi]
    · simp [h]
theorem csgn_bits {x y:Nat} (hx:W64 x) (hy:W64 y):(bits BinOp.or IntKind.u64 (bits BinOp.andNot IntKind.u64 (↑x) 9223372036854775808) (bits BinOp.and IntKind.u64 (↑y) 9223372036854775808)).toNat=csgn x y:=by
  rw [u64_lo hx.lt,u64_hi hy.lt]
  unfold csgn
  rw [wd_eq,neg_eq,rg_eq]
  have h1:x % 9223372036854775808 < 2 ^ 63:=Nat.mod_lt _ (by decide)
  rw [u64_or_nat _ _ (by omega) (by split <;> omega)]
  generalize x % 9223372036854775808=r at *
  by_cases h:9223372036854775808≤y
  · simp only [h,if_true,decide_true,Int.toNat_natCast]
    rw [Nat.or_comm]
    exact (Nat.two_pow_add_eq_or_of_lt h1 1).symm
  · simp [h]
theorem copysign_c (x y:Nat) (hx:W64 x) (hy:W64 y) (w:World):Calls Tryd.prog 37 #[.float .f64 x,.float .f64 y] w fun e w'=>e=.returned (.float .f64 (csgn x y))∧w'=w:=by
  have E:=Lib.hid (csgn_bits hx hy)
  go_enter Tryd.func37,Tryd.ntmps37
  go_wp2
  go_ret
  exact ⟨ret_float E.out,rfl⟩
theorem inf_c (s:Int) (w:World):Calls Tryd.prog 99 #[.int .i64 s] w fun e w'=>e=.returned (.float .f64 (wd (decide (s < 0)) 9218868437227405312))∧w'=w:=by
  go_enter Tryd.func99,Tryd.ntmps99
  go_wp2
  all_goals go_ret
  · have h:¬ s < 0:=by omega
    exact ⟨ret_float (by rw [wd_eq];simp [h]),rfl⟩
  · have h:s < 0:=by omega
    exact ⟨ret_float (by rw [wd_eq];simp [h]),rfl⟩
end Go.Proofs.YtalhpbilkhdfhaaDoor
namespace GFl
def PI:Int:=9218868437227405312
def kindF (x:Nat):Int:=if 9218868437227405312 < rg x then 4 else if rg x=9218868437227405312 then 3 else if 4503599627370496≤rg x then 2 else if 0 < rg x then 1 else 0
def placeF (x:Nat):Int:=if isn x then 0 else plc x
def atW (p:Int):Nat:=wd (decide (p < 0)) p.natAbs
def atOk (p:Int):Bool:=decide (-PI≤p∧p≤PI)
def atF (p:Int):Nat:=if atOk p then atW p else 0
def nextP (p:Int) (up:Bool):Int:=if up then min (p + 1) PI else max (p - 1) (-PI)
def nextF (x:Nat) (up:Bool):Nat:=if isn x then x else atW (nextP (plc x) up)
def sameF (x y:Nat):Bool:=decide (x=y) || isn x && isn y
end GFl
namespace Go.Proofs.YtalhpbilkhdfhaaDoor
open Go Go.RowKit GFl
set_option maxRecDepth 100000
attribute [local go_sem] run_f64bits run_f64frombits run_neg_f64
theorem kind_c (x:Nat) (hx:W64 x) (w:World):Calls Tryd.prog 82 #[.float .f64 x] w fun e w'=>e=.returned (.int .i64 (kindF x))∧w'=w:=by
  have k1:(FloatKind.f64.format.order x x != some .eq)=decide (9218868437227405312 < rg x):=by rw [t_ne_self hx,isn_eq]
  have k2:(FloatKind.f64.format.order (fabs x) 4503599627370496 == some .gt || FloatKind.f64.format.order (fabs x) 4503599627370496 == some .eq)=decide (rg x≤9218868437227405312∧4503599627370496≤rg x):=by
    rw [t_ge (fabs_w x) (w_const (by decide)),fabs_isn,fabs_plc,isn_eq,isn_eq,plc_eq,neg_eq,rg_eq 4503599627370496,Bool.eq_iff_iff];simp;omega
  have k3:(FloatKind.f64.format.order (fabs x) 0 == some .gt)=decide (rg x≤9218868437227405312∧0 < rg x):=by
    rw [t_gt (fabs_w x) (w_const (by decide)),fabs_isn,fabs_plc,isn_eq,isn0,plc0,Bool.eq_iff_iff];simp
  have k4:infS x 0=decide (rg x=9218868437227405312):=by simp [infS]
  go_enter Tryd.func82,Tryd.ntmps82
  go_wp2_with (first|(go_at_call 14;refine (abs_c _ hx _).mono ?_;rintro e w' ⟨rfl,rfl⟩)|(go_at_call 21;refine (isInf_c _ _ hx _).mono ?_;rintro e w' ⟨rfl,rfl⟩))
  all_goals go_ret
  all_goals exact ⟨ret_int (by unfold kindF;(repeat' split) <;> omega),rfl⟩
theorem place_c (x:Nat) (hx:W64 x) (w:World):Calls Tryd.prog 92 #[.float .f64 x] w fun e w'=>e=.returned (.tuple #[.int .i64 (placeF x),.bool (!isn x)])∧w'=w:=by
  have k1:(FloatKind.f64.format.order x x != some .eq)=isn x:=by rw [t_ne_self hx]
  have k3:isn x=false→(FloatKind.f64.format.order x 0 == some .lt)=decide (plc x < 0):=by
    intro h;rw [t_lt hx (w_const (by decide)),isn0,plc0,h];simp
  cases hn:isn x
  · have k3:=k3 hn
    have hr:rg x≤9223372036854775807:=by have:=rg_lt x;omega
    rw [hn] at k1
    have HN:=Lib.hid hn
    clear hn
    have hf:fabs x=rg x:=rfl
    go_enter Tryd.func92,Tryd.ntmps92
    go_wp2_with (go_at_call 14;refine (abs_c _ hx _).mono ?_;rintro e w' ⟨rfl,rfl⟩)
    all_goals go_ret2
    all_goals refine ⟨ret_int_bool ?_ ?_,rfl⟩
    all_goals first|(unfold placeF;rw [HN.out];have:=plc_natAbs x;simp;omega)|rfl
  · rw [hn] at k1
    have HN:=Lib.hid hn
    clear hn k3
    go_enter Tryd.func92,Tryd.ntmps92
    go_wp2
    go_ret2
    exact ⟨ret_int_bool (by unfold placeF;rw [HN.out];rfl) rfl,rfl⟩
theorem fneg_nat {p:Int} (h:p < 0) (h':-9218868437227405312≤p):fneg (-p).toNat=atW p:=by
  have hw:W64 (-p).toNat:=W64.mk (by omega)
  unfold atW
  rw [fneg_eq hw,neg_eq,wd_eq]
  have h2:¬ 9223372036854775808≤(-p).toNat:=by omega
  simp only [h2,h,decide_true,decide_false,Bool.false_eq_true,if_false,if_true]
  omega
theorem at_pos {p:Int} (h:0≤p):p.toNat=atW p:=by
  unfold atW
  rw [wd_eq]
  have h2:¬ p < 0:=by omega
  simp only [h2,decide_false,Bool.false_eq_true,if_false]
  omega
theorem atOk_eq (p:Int):atOk p=decide (-9218868437227405312≤p∧p≤9218868437227405312):=rfl
theorem at_c (p:Int) (h1:-9223372036854775808≤p) (h2:p≤9223372036854775807) (w:World):Calls Tryd.prog 93 #[.int .i64 p] w fun e w'=>e=.returned (.tuple #[.float .f64 (atF p),.bool (atOk p)])∧w'=w:=by
  go_enter Tryd.func93,Tryd.ntmps93
  go_wp2
  all_goals go_ret2
  all_goals refine ⟨ret_float_bool ?_ ?_,rfl⟩
  all_goals try unfold atF
  all_goals rw [atOk_eq]
  all_goals first|(symm;rw [if_neg (by simp;omega)])|(rw [if_pos (by simp;omega)];first|exact fneg_nat (by omega) (by omega)|exact at_pos (by omega))|(symm;simp;omega)
theorem nextP_bd (p:Int) (up:Bool) (h1:-9218868437227405312≤p) (h2:p≤9218868437227405312):-9218868437227405312≤nextP p up∧nextP p up≤9218868437227405312:=by
  unfold nextP PI;cases up <;> simp <;> omega
theorem plc_bd {x:Nat} (h:isn x=false):-9218868437227405312≤plc x∧plc x≤9218868437227405312:=by
  rw [isn_eq] at h
  have h:=of_decide_eq_false h
  rw [plc_eq];cases neg x <;> simp <;> omega
theorem nextF_of {x:Nat} {up:Bool} {p:Int} (h:isn x=false) (hp:p=nextP (plc x) up):atF p=nextF x up:=by
  have hb:=plc_bd h
  have hn:=nextP_bd (plc x) up hb.1 hb.2
  unfold atF nextF
  rw [h,hp,atOk_eq,if_pos (by simp <;> omega)]
  simp
theorem nextF_nan {x:Nat} {up:Bool} (h:isn x=true):nextF x up=x:=by unfold nextF;rw [h];rfl
theorem next_c (x:Nat) (up:Bool) (hx:W64 x) (w:World):Calls Tryd.prog 80 #[.float .f64 x,.bool up] w fun e w'=>e=.returned (.float .f64 (nextF x up))∧w'=w:=by
  cases hn:isn x
  · have hb:=plc_bd hn
    have hp:placeF x=plc x:=by unfold placeF;rw [hn];rfl
    have HN:=Lib.hid hn
    have HP:=Lib.hid hp
    clear hn hp
    cases up
    all_goals
      go_enter Tryd.func80,Tryd.ntmps80
      go_wp2_with (first|(go_at_call 92;refine (place_c _ hx _).mono ?_;rw [HN.out,HP.out];rintro e w' ⟨rfl,rfl⟩)|(go_at_call 93;refine (at_c _ (by omega) (by omega) _).mono ?_;rintro e w' ⟨rfl,rfl⟩))
      all_goals go_ret
      all_goals exact ⟨ret_float (nextF_of HN.out (by unfold nextP PI;simp <;> omega)),rfl⟩
  · have HN:=Lib.hid hn
    clear hn
    go_enter Tryd.func80,Tryd.ntmps80
    go_wp2_with (first|(go_at_call 92;refine (place_c _ hx _).mono ?_;rw [HN.out];rintro e w' ⟨rfl,rfl⟩))
    go_ret
    exact ⟨ret_float (nextF_nan HN.out).symm,rfl⟩
end Go.Proofs.YtalhpbilkhdfhaaDoor
namespace Go.Proofs.YtalhpbilkhdfhaaDoor
open Go Go.RowKit GFl
set_option maxRecDepth 100000
attribute [local go_sem] run_f64bits run_f64frombits run_neg_f64
theorem sameF_int {x y:Nat}:((x:Int) == (y:Int))=decide (x=y):=by rw [Bool.eq_iff_iff];simp;omega
theorem sameF_eq {x y:Nat} (h:x=y):true=sameF x y:=by simp [sameF,h]
theorem sameF_ne {x y:Nat} {c:Bool} (h:¬ x=y) (hc:c=(isn x && isn y)):c=sameF x y:=by simp [sameF,h,hc]
theorem sameFloat_c (x y:Nat) (hx:W64 x) (hy:W64 y) (w:World):Calls Tryd.prog 10 #[.float .f64 x,.float .f64 y] w fun e w'=>e=.returned (.bool (sameF x y))∧w'=w:=by
  have k1:=t_ne_self hx
  have k2:=t_ne_self hy
  have k3:=@sameF_int x y
  go_enter Tryd.func10,Tryd.ntmps10
  go_wp2
  all_goals go_ret
  · exact ⟨ret_bool (sameF_eq (by assumption)),rfl⟩
  · exact ⟨ret_bool (sameF_ne (by assumption) (by rw [‹isn x=true›];rfl)),rfl⟩
  · exact ⟨ret_bool (sameF_ne (by assumption) (by rw [Bool.eq_false_iff.2 ‹¬isn x=true›];rfl)),rfl⟩
end Go.Proofs.YtalhpbilkhdfhaaDoor
namespace GFl
open Ieee
def p2 (n:Nat):Nat:=2 ^ n
theorem p2_def (n:Nat):p2 n=2 ^ n:=rfl
theorem p2_pos (n:Nat):0 < p2 n:=Nat.two_pow_pos n
theorem p2_add (a b:Nat):p2 (a + b)=p2 a * p2 b:=Nat.pow_add ..
theorem p2_le {a b:Nat} (h:a≤b):p2 a≤p2 b:=Nat.pow_le_pow_right (by decide) h
theorem p2_zero:p2 0=1:=rfl
attribute [irreducible] p2
theorem p2_split {a b:Nat} (h:b≤a):p2 a=p2 (a - b) * p2 b:=by rw [← p2_add];congr 1;omega
theorem rep {B:Nat} (q k:Nat) (hq:q < 2 * B):∃ r,mg B r=q * p2 k:=by
  simp only [p2_def]
  induction k generalizing q with
  | zero =>
    refine ⟨q,?_⟩
    by_cases h:q < B
    · rw [mg_small h];simp
    · have e:q=(0 + 1) * B + (q - B):=by omega
      have:=mg_eq B 0 (q - B) (by omega)
      rw [← e] at this
      rw [this];simp;omega
  | succ k ih =>
    by_cases h:q < B
    · obtain ⟨r,hr⟩:=ih (q * 2) (by omega)
      exact ⟨r,by rw [hr,Nat.pow_succ,Nat.mul_assoc,Nat.mul_comm 2]⟩
    · refine ⟨(k + 1 + 1) * B + (q - B),?_⟩
      rw [mg_eq B (k + 1) (q - B) (by omega)]
      congr 1;omega
theorem rn_exact {B N D r q:Nat} (hB:0 < B) (hD:0 < D) (h:IsRn B N D r) (e:N=mg B q * D):r=q:=by
  subst e
  exact h.unique hB hD (IsRn.exact hB hD)
theorem mul64 {x y:Nat} (hx:W64 x) (hy:W64 y) (hx1:rg x < 9218868437227405312) (hy1:rg y < 9218868437227405312) :
    ∃ r,IsRn 4503599627370496 (mg 4503599627370496 (rg x) * mg 4503599627370496 (rg y)) (p2 1074) r∧double.mul x y=some (wd (neg x ^^ neg y) (min r 9218868437227405312)):=by
  have h:=mul_fin good_double hx hy (by rw [d_inf];exact hx1) (by rw [d_inf];exact hy1) (by decide)
  have e:(-double.leastPlace).toNat=1074:=by decide
  rw [d_b,← p2_def,e,d_inf] at h
  exact h
theorem add64 {x y:Nat} (hx:W64 x) (hy:W64 y) (hx1:rg x < 9218868437227405312) (hy1:rg y < 9218868437227405312) :
    ∃ r,IsRn 4503599627370496 (val x + val y).natAbs 1 r ∧
      double.add x y=some (wd (if val x + val y=0 then neg x && neg y else decide (val x + val y < 0)) (min r 9218868437227405312)):=by
  have h:=add_fin good_double hx hy (by rw [d_inf];exact hx1) (by rw [d_inf];exact hy1)
  rw [d_b,d_inf] at h
  exact h
theorem val_eq' (x:Nat):val x=if neg x then -(mg 4503599627370496 (rg x):Int) else (mg 4503599627370496 (rg x):Int):=by rw [val_eq,d_b]
abbrev B52:Nat:=4503599627370496
theorem B52_pos:0 < B52:=by decide
theorem mg_B (E t:Nat) (hE:1≤E) (ht:t < B52):mg B52 (E * B52 + t)=(B52 + t) * p2 (E - 1):=by
  obtain ⟨s,rfl⟩:∃ s,E=s + 1:=⟨E - 1,by omega⟩
  rw [p2_def]
  exact mg_eq B52 s t ht
theorem mg_norm {r:Nat} (h:B52≤r):mg B52 r=(B52 + r % B52) * p2 (r / B52 - 1):=by
  have:=mg_B (r / B52) (r % B52) ((Nat.one_le_div_iff B52_pos).2 h) (Nat.mod_lt _ B52_pos)
  rwa [Nat.mul_comm (r / B52),Nat.div_add_mod] at this
structure Normd (x y:Nat) (e:Int):Prop where
  w:W64 y
  s:neg y=neg x
  lo:B52≤rg y
  hi:rg y < 9218868437227405312
  e:(e=0∧y=x) ∨ (e=-52∧mg B52 (rg y)=mg B52 (rg x) * p2 52)
theorem Normd.k1 {x y:Nat} {e:Int} (h:Normd x y e):-52≤e:=by rcases h.e with ⟨rfl,_⟩|⟨rfl,_⟩ <;> omega
theorem Normd.k2 {x y:Nat} {e:Int} (h:Normd x y e):e≤0:=by rcases h.e with ⟨rfl,_⟩|⟨rfl,_⟩ <;> omega
theorem Normd.E {x y:Nat} {e:Int} (h:Normd x y e):rg y / B52 < 2047:=Nat.div_lt_of_lt_mul (by have:=h.hi;unfold B52;omega)
theorem c52_rg:rg 4841369599423283200=4841369599423283200:=by decide
theorem c52_mg:mg B52 (rg 4841369599423283200)=p2 52 * p2 1074:=by
  rw [c52_rg,mg_norm (by decide),← p2_add]
  decide +kernel
theorem c52_neg:neg 4841369599423283200=false:=by decide
theorem mg52:mg B52 B52=B52:=by decide
theorem mgINF:mg B52 9218868437227405312=B52 * p2 2046:=by
  rw [mg_norm (by decide)];congr 1
theorem normd_mul {x:Nat} (hx:W64 x) (h0:0 < rg x) (h1:rg x < B52):∃ y,double.mul x 4841369599423283200=some y∧Normd x y (-52):=by
  obtain ⟨r,hr,e⟩:=mul64 hx (w_const (by decide:decide (4841369599423283200 < 18446744073709551616)=true)) (by unfold B52 at h1;omega) (by decide)
  obtain ⟨q,hq⟩:=rep (B:=B52) (rg x) 52 (by unfold B52 at *;omega)
  have hrq:r=q:=rn_exact B52_pos (p2_pos 1074) hr (by rw [c52_mg,← Nat.mul_assoc,mg_small h1,← hq])
  subst hrq
  have h52:p2 52=B52:=by decide +kernel
  have hlo:B52≤r:=by
    rw [← mg_le_iff (B:=B52) B52_pos,hq,mg52,h52]
    exact Nat.le_mul_of_pos_left _ h0
  have hhi:r < 9218868437227405312:=by
    rw [← mg_lt_iff (B:=B52) B52_pos,hq,mgINF,h52,Nat.mul_comm B52]
    refine Nat.mul_lt_mul_of_pos_right ?_ B52_pos
    exact Nat.lt_of_lt_of_le h1 (Nat.le_trans (Nat.le_of_eq h52.symm) (p2_le (by decide)))
  rw [c52_neg,Bool.xor_false,Nat.min_eq_left (Nat.le_of_lt hhi)] at e
  have hr63:r < 9223372036854775808:=by omega
  refine ⟨_,e,wd_w hr63,wd_neg hr63,by rw [wd_rg hr63];exact hlo,by rw [wd_rg hr63];exact hhi,.inr ⟨rfl,?_⟩⟩
  rw [wd_rg hr63,hq,mg_small h1]
theorem normd_id {x:Nat} (hx:W64 x) (h0:B52≤rg x) (h1:rg x < 9218868437227405312):Normd x x 0:=⟨hx,rfl,h0,h1,.inl ⟨rfl,rfl⟩⟩
theorem ldexp_val {x y:Nat} {e1 e:Int} (h:Normd x y e1) (X:Int) (hX:X=e + e1 + (rg y / B52:Nat) - 1023) :
    ∃ c d,0 < c∧0 < d∧mg B52 (rg x) * p2 e.toNat * c=(B52 + rg y % B52) * p2 (X + 1022).toNat * d∧p2 (-e).toNat * c=p2 (-(X + 1022)).toNat * d:=by
  have hE:1≤rg y / B52:=(Nat.one_le_div_iff B52_pos).2 h.lo
  have hm:=mg_norm h.lo
  generalize rg y / B52=E at *
  generalize B52 + rg y % B52=m at *
  rcases h.e with ⟨rfl,rfl⟩|⟨rfl,h2⟩
  · rw [hm]
    refine ⟨p2 (-(X + 1022)).toNat,p2 (-e).toNat,p2_pos _,p2_pos _,?_,Nat.mul_comm ..⟩
    simp only [Nat.mul_assoc,← p2_add]
    congr 2;omega
  · rw [hm] at h2
    refine ⟨p2 52 * p2 (-(X + 1022)).toNat,p2 52 * p2 (-e).toNat,Nat.mul_pos (p2_pos _) (p2_pos _),Nat.mul_pos (p2_pos _) (p2_pos _),?_,by ac_rfl⟩
    have e3:mg B52 (rg x) * p2 e.toNat * (p2 52 * p2 (-(X + 1022)).toNat)=mg B52 (rg x) * p2 52 * p2 (e.toNat + (-(X + 1022)).toNat):=by
      rw [p2_add,Nat.mul_assoc,Nat.mul_assoc,Nat.mul_left_comm (p2 e.toNat)]
    rw [e3,← h2]
    simp only [Nat.mul_assoc,← p2_add]
    congr 2;omega
def IsLd (x:Nat) (e:Int) (z:Nat):Prop:=∃ r,IsRn B52 (mg B52 (rg x) * p2 e.toNat) (p2 (-e).toNat) r∧z=wd (neg x) (min r 9218868437227405312)
theorem isLd_of {x y:Nat} {e1 e:Int} (h:Normd x y e1) (X:Int) (hX:X=e + e1 + (rg y / B52:Nat) - 1023) {r z:Nat}
    (hr:IsRn B52 ((B52 + rg y % B52) * p2 (X + 1022).toNat) (p2 (-(X + 1022)).toNat) r) (hz:z=wd (neg x) (min r 9218868437227405312)):IsLd x e z:=by
  obtain ⟨c,d,hc,hd,h1,h2⟩:=ldexp_val h X hX
  refine ⟨r,?_,hz⟩
  have:=(IsRn.scale (B:=B52) (r:=r) hd).2 hr
  rw [← h1,← h2] at this
  exact (IsRn.scale hc).1 this
theorem isLd_over {x y:Nat} {e1 e:Int} (h:Normd x y e1) (X:Int) (hX:X=e + e1 + (rg y / B52:Nat) - 1023) (hb:1023 < X):IsLd x e (wd (neg x) 9218868437227405312):=by
  obtain ⟨q,hq⟩:=rep (B:=B52) (B52 + rg y % B52) (X + 1022).toNat (by have:=Nat.mod_lt (rg y) B52_pos;omega)
  refine isLd_of h X hX (r:=q) ?_ ?_
  · have e0:(-(X + 1022)).toNat=0:=by omega
    rw [e0,p2_zero]
    have:=IsRn.exact (B:=B52) (r:=q) B52_pos Nat.one_pos
    rwa [hq,Nat.mul_one] at this
  · rw [Nat.min_eq_right]
    rw [← mg_le_iff (B:=B52) B52_pos,hq,mgINF]
    exact Nat.mul_le_mul (by omega) (p2_le (by omega))
theorem isLd_norm {x y:Nat} {e1 e:Int} (h:Normd x y e1) (X:Int) (hX:X=e + e1 + (rg y / B52:Nat) - 1023) (ha:-1022≤X) (hb:X≤1023):IsLd x e (wd (neg x) ((X + 1023).toNat * B52 + rg y % B52)):=by
  have ht:=Nat.mod_lt (rg y) B52_pos
  have hm:=mg_B (X + 1023).toNat (rg y % B52) (by omega) ht
  refine isLd_of h X hX (r:=(X + 1023).toNat * B52 + rg y % B52) ?_ ?_
  · have e0:(-(X + 1022)).toNat=0:=by omega
    rw [e0,p2_zero]
    have:=IsRn.exact (B:=B52) (r:=(X + 1023).toNat * B52 + rg y % B52) B52_pos Nat.one_pos
    rw [hm,Nat.mul_one] at this
    have e2:(X + 1023).toNat - 1=(X + 1022).toNat:=by omega
    rwa [e2] at this
  · congr 1
    rw [Nat.min_eq_left]
    unfold B52 at *
    omega
theorem isLd_under {x y:Nat} {e1 e:Int} (h:Normd x y e1) (X:Int) (hX:X=e + e1 + (rg y / B52:Nat) - 1023) (ha:X < -1075):IsLd x e (wd (neg x) 0):=by
  have ht:=Nat.mod_lt (rg y) B52_pos
  refine isLd_of h X hX (r:=0) ?_ (by simp)
  have e0:(X + 1022).toNat=0:=by omega
  rw [e0,p2_zero,Nat.mul_one]
  have hp:p2 54≤p2 (-(X + 1022)).toNat:=p2_le (by omega)
  have h54:p2 54=4 * B52:=by decide +kernel
  have m0:mg B52 0=0:=by decide
  have m1:mg B52 (0 + 1)=1:=by decide
  refine ⟨?_,?_,?_,?_⟩
  · rw [m0,m1];omega
  · rw [m0,m1];intro _;rfl
  · intro q hq;omega
  · intro q hq;omega
theorem one_rg:rg 4607182418800017408=4607182418800017408:=by decide
theorem one_mg:mg B52 (rg 4607182418800017408)=p2 1074:=by rw [one_rg];decide +kernel
theorem one_neg:neg 4607182418800017408=false:=by decide
theorem m53_rg:rg 4368491638549381120=4368491638549381120:=by decide
theorem m53_mg:mg B52 (rg 4368491638549381120)=p2 1021:=by rw [m53_rg];decide +kernel
theorem m53_neg:neg 4368491638549381120=false:=by decide
theorem mul_one64 {x:Nat} (hx:W64 x) (h:rg x < 9218868437227405312):double.mul 4607182418800017408 x=some x:=by
  obtain ⟨r,hr,e⟩:=mul64 (w_const (by decide:decide (4607182418800017408 < 18446744073709551616)=true)) hx (by decide) h
  rw [one_mg,Nat.mul_comm] at hr
  have hrq:=rn_exact B52_pos (p2_pos 1074) hr rfl
  rw [hrq,one_neg,Bool.false_xor,Nat.min_eq_left (Nat.le_of_lt h),← w64_wd hx] at e
  exact e
theorem isLd_sub {x y:Nat} {e1 e:Int} (h:Normd x y e1) (X:Int) (hX:X=e + e1 + (rg y / B52:Nat) - 1023) (ha:-1075≤X) (hb:X < -1022) :
    ∃ z,double.mul 4368491638549381120 (wd (neg x) ((X + 53 + 1023).toNat * B52 + rg y % B52))=some z∧IsLd x e z:=by
  have ht:=Nat.mod_lt (rg y) B52_pos
  have hR:(X + 53 + 1023).toNat * B52 + rg y % B52 < 9218868437227405312:=by unfold B52 at *;omega
  have hR63:(X + 53 + 1023).toNat * B52 + rg y % B52 < 9223372036854775808:=by omega
  have hm:=mg_B (X + 53 + 1023).toNat (rg y % B52) (by omega) ht
  obtain ⟨r,hr,e2⟩:=mul64 (w_const (by decide:decide (4368491638549381120 < 18446744073709551616)=true)) (wd_w (s:=neg x) hR63) (by decide) (by rw [wd_rg hR63];exact hR)
  rw [wd_neg hR63,m53_neg,Bool.false_xor] at e2
  rw [m53_mg,wd_rg hR63,hm] at hr
  refine ⟨_,e2,isLd_of h X hX (r:=r) (hr.cross (p2_pos _) (p2_pos _) ?_) rfl⟩
  have e0:(X + 1022).toNat=0:=by omega
  rw [e0,p2_zero,Nat.mul_one]
  generalize B52 + rg y % B52=m
  have e5:p2 1021 * (m * p2 ((X + 53 + 1023).toNat - 1)) * p2 (-(X + 1022)).toNat=m * (p2 1021 * p2 ((X + 53 + 1023).toNat - 1) * p2 (-(X + 1022)).toNat):=by ac_rfl
  rw [e5,← p2_add,← p2_add]
  congr 2;omega
theorem toInt_whole {z m:Nat} (hz:W64 z) (hf:rg z < 9218868437227405312) (hn:neg z=false) (hm:mg B52 (rg z)=m * p2 1074):(double.read z).toInt .zero=some (m:Int):=by
  obtain ⟨q,e,h1,h2,h3,_,_⟩:=read_num (f:=double) hz (by rw [d_inf];exact hf)
  have hs:sgn double z=false:=hn
  rw [h1,hs]
  rw [d_l] at h2 h3
  rw [d_b] at h3
  have h3:q * p2 (e + 1074).toNat=m * p2 1074:=by
    rw [p2_def]
    have e1:e + 1074=e - -1074:=by omega
    rw [e1,h3]
    exact hm
  simp only [Datum.toInt,Datum.integral,signed,Bool.false_eq_true,if_false]
  congr 2
  simp only [Nat.shiftLeft_zero]
  unfold Toward.cut
  simp only [Bool.toNat_false,Nat.add_zero,Nat.shiftLeft_eq,Nat.one_mul]
  by_cases he:0≤e
  · have e0:(-e).toNat=0:=by omega
    rw [e0,Nat.zero_min,Nat.pow_zero,Nat.div_one]
    have e2:p2 (e + 1074).toNat=p2 e.toNat * p2 1074:=by rw [← p2_add];congr 1;omega
    rw [e2,← Nat.mul_assoc] at h3
    rw [← p2_def]
    exact Nat.eq_of_mul_eq_mul_right (p2_pos _) h3
  · have e0:e.toNat=0:=by omega
    rw [e0,Nat.pow_zero,Nat.mul_one]
    have e2:p2 1074=p2 (-e).toNat * p2 (e + 1074).toNat:=by rw [← p2_add];congr 1;omega
    rw [e2,← Nat.mul_assoc] at h3
    have h4:=Nat.eq_of_mul_eq_mul_right (p2_pos _) h3
    rw [p2_def] at h4
    by_cases hm0:m=0
    · subst hm0;rw [h4];simp
    · have hle:2 ^ (-e).toNat≤q:=by rw [h4];exact Nat.le_mul_of_pos_left _ (by omega)
      have hq0:q ≠ 0:=by have:=Nat.two_pow_pos (-e).toNat;omega
      have hlog:(-e).toNat≤q.log2:=(Nat.le_log2 hq0).2 hle
      rw [Nat.min_eq_left (by omega),h4]
      exact Nat.mul_div_cancel _ (Nat.two_pow_pos _)
structure IsSplit (x fr:Nat) (ex:Int):Prop where
  odd:fr % 2=1
  lo:-1074≤ex
  eq:fr * p2 (ex + 1074).toNat=mg B52 (rg x)
theorem odd_unique {a b i j:Nat} (ha:a % 2=1) (hb:b % 2=1) (h:a * p2 i=b * p2 j):a=b∧i=j:=by
  rcases Nat.lt_trichotomy i j with hij|hij|hij
  · exfalso
    rw [p2_split (Nat.le_of_lt hij),← Nat.mul_assoc] at h
    have h1:=Nat.eq_of_mul_eq_mul_right (p2_pos i) h
    obtain ⟨k,hk⟩:∃ k,j - i=k + 1:=⟨j - i - 1,by omega⟩
    rw [hk,p2_def,Nat.pow_succ] at h1
    have:(b * (2 ^ k * 2)) % 2=0:=by rw [← Nat.mul_assoc];omega
    omega
  · subst hij
    exact ⟨Nat.eq_of_mul_eq_mul_right (p2_pos _) h,rfl⟩
  · exfalso
    rw [p2_split (Nat.le_of_lt hij),← Nat.mul_assoc] at h
    have h1:=Nat.eq_of_mul_eq_mul_right (p2_pos j) h
    obtain ⟨k,hk⟩:∃ k,i - j=k + 1:=⟨i - j - 1,by omega⟩
    rw [hk,p2_def,Nat.pow_succ] at h1
    have:(a * (2 ^ k * 2)) % 2=0:=by rw [← Nat.mul_assoc];omega
    omega
theorem IsSplit.unique {x a b:Nat} {i j:Int} (h:IsSplit x a i) (h':IsSplit x b j):a=b∧i=j:=by
  have:=odd_unique h.odd h'.odd (h.eq.trans h'.eq.symm)
  have:=h.lo
  have:=h'.lo
  omega
theorem split_m {t z:Nat} (ht:t < B52) (h:IsLd (wd false (1022 * B52 + t)) 53 z):W64 z∧rg z < 9218868437227405312∧neg z=false∧mg B52 (rg z)=(B52 + t) * p2 1074:=by
  have hR:1022 * B52 + t < 9223372036854775808:=by unfold B52 at *;omega
  obtain ⟨r,hr,e⟩:=h
  rw [wd_rg hR,mg_B 1022 t (by decide) ht] at hr
  obtain ⟨q,hq⟩:=rep (B:=B52) (B52 + t) 1074 (by omega)
  have e1:(B52 + t) * p2 (1022 - 1) * p2 (53:Int).toNat=mg B52 q * p2 (-53:Int).toNat:=by
    rw [hq,Nat.mul_assoc,← p2_add,show (-53:Int).toNat=0 from rfl,p2_zero,Nat.mul_one]
    rfl
  have hrq:=rn_exact B52_pos (p2_pos _) hr e1
  have hhi:q < 9218868437227405312:=by
    rw [← mg_lt_iff (B:=B52) B52_pos,hq,mgINF]
    have h2:p2 2046=p2 972 * p2 1074:=by rw [← p2_add]
    have h3:p2 1≤p2 972:=p2_le (by decide)
    have h4:p2 1=2:=by decide +kernel
    rw [h2,← Nat.mul_assoc]
    refine Nat.mul_lt_mul_of_pos_right ?_ (p2_pos _)
    have:B52 * 2≤B52 * p2 972:=Nat.mul_le_mul_left _ (by omega)
    omega
  have hq63:q < 9223372036854775808:=by omega
  rw [hrq,wd_neg hR,Nat.min_eq_left (Nat.le_of_lt hhi)] at e
  rw [e]
  exact ⟨wd_w hq63,by rw [wd_rg hq63];exact hhi,wd_neg hq63,by rw [wd_rg hq63];exact hq⟩
theorem p2_odd_le {a b m M:Nat} (hm:m % 2=1) (h:m * p2 a=M * p2 b):b≤a:=by
  rcases Nat.lt_or_ge a b with hab|hab
  · exfalso
    rw [p2_split (Nat.le_of_lt hab),← Nat.mul_assoc] at h
    have h1:=Nat.eq_of_mul_eq_mul_right (p2_pos a) h
    obtain ⟨k,hk⟩:∃ k,b - a=k + 1:=⟨b - a - 1,by omega⟩
    rw [hk,p2_def,Nat.pow_succ] at h1
    have:(M * (2 ^ k * 2)) % 2=0:=by rw [← Nat.mul_assoc];omega
    omega
  · exact hab
theorem split_ok {x y:Nat} {k:Int} {n j:Nat} (h:Normd x y k) (hm:B52 + rg y % B52=p2 n * (2 * j + 1)):IsSplit x (2 * j + 1) (k + (rg y / B52:Nat) - 1022 - 53 + n):=by
  have hE:1≤rg y / B52:=(Nat.one_le_div_iff B52_pos).2 h.lo
  have hy:=mg_norm h.lo
  rw [hm] at hy
  generalize rg y / B52=E at *
  have key:(2 * j + 1) * p2 (n + (E - 1))=mg B52 (rg x) * p2 (-k).toNat:=by
    rw [p2_add]
    have e1:(2 * j + 1) * (p2 n * p2 (E - 1))=p2 n * (2 * j + 1) * p2 (E - 1):=by ac_rfl
    rw [e1,← hy]
    rcases h.e with ⟨rfl,rfl⟩|⟨rfl,h2⟩
    · rw [show (-(0:Int)).toNat=0 from rfl,p2_zero,Nat.mul_one]
    · exact h2
  have hge:=p2_odd_le (by omega) key
  have hk:=h.k1
  have hk2:=h.k2
  refine ⟨by omega,by omega,?_⟩
  have e3:n + (E - 1)=(k + E - 1022 - 53 + n + 1074).toNat + (-k).toNat:=by omega
  rw [e3,p2_add,← Nat.mul_assoc] at key
  exact Nat.eq_of_mul_eq_mul_right (p2_pos _) key
end GFl
namespace Go.Proofs.YtalhpbilkhdfhaaDoor
open Go Go.RowKit GFl
set_option maxRecDepth 100000
attribute [local go_sem] run_f64bits run_f64frombits run_neg_f64
theorem fr_some {k:FloatKind} {z r:Nat} {o:Option Nat} (h:FR k o r) (e:o=some z):r=z:=by rw [e] at h;exact h
def NormPost (x:Nat) (w:World) (e:Ending) (w':World):Prop:=∃ y k,e=.returned (.tuple #[.float .f64 y,.int .i64 k])∧Normd x y k∧Dr w w'
theorem normalize_c (x:Nat) (hx:W64 x) (h0:0 < rg x) (h1:rg x < 9218868437227405312) (w:World):Calls Tryd.prog 98 #[.float .f64 x] w (NormPost x w):=by
  have k:(FloatKind.f64.format.order (fabs x) 4503599627370496 == some .lt)=decide (rg x < 4503599627370496):=by
    rw [t_lt (fabs_w x) (w_const (by decide)),fabs_isn,fabs_plc,isn_eq,isn_eq,plc_eq,neg_eq,rg_eq 4503599627370496,Bool.eq_iff_iff];simp;omega
  by_cases hs:rg x < 4503599627370496
  · obtain ⟨y,hy,hn⟩:=normd_mul hx h0 hs
    have k2:decide (rg x < 4503599627370496)=true:=by simp [hs]
    rw [k2] at k
    have HY:=Lib.hid hy
    clear hy k2
    go_enter Tryd.func98,Tryd.ntmps98
    go_wp2_with (first|(go_at_call 14;refine (abs_c _ hx _).mono ?_;rintro e w' ⟨rfl,rfl⟩)|(refine wp_arith .f64 x 4841369599423283200 rfl rfl rfl ?_;intro r n hr;obtain rfl:=fr_some hr HY.out;clear hr))
    go_ret2
    exact ⟨_,_,rfl,hn,Dr.n _ _⟩
  · have k2:decide (rg x < 4503599627370496)=false:=by simp [hs]
    rw [k2] at k
    clear k2
    go_enter Tryd.func98,Tryd.ntmps98
    go_wp2_with (first|(go_at_call 14;refine (abs_c _ hx _).mono ?_;rintro e w' ⟨rfl,rfl⟩))
    go_ret2
    exact ⟨_,_,rfl,normd_id hx (by unfold B52;omega) h1,Dr.refl _⟩
theorem exp_u64 {y:Nat} (hy:W64 y):bits BinOp.and IntKind.u64 ((y:Int) / 4503599627370496) 2047=((rg y / B52:Nat):Int):=by
  have h:=hy.lt
  have e:((y:Int) / 4503599627370496)=((y / 4503599627370496:Nat):Int):=by omega
  have:=u64_and_nat (y / 4503599627370496) 2047 (by omega) (by decide)
  rw [e,show (2047:Int)=((2047:Nat):Int) from rfl,this,rg_eq]
  congr 1
  rw [show (2047:Nat)=2 ^ 11 - 1 from rfl,Nat.and_two_pow_sub_one_eq_mod]
  unfold B52
  omega
theorem bits_and_i64_nat (a b:Nat) (ha:a < 9223372036854775808) (hb:b < 9223372036854775808):bits BinOp.and IntKind.i64 (a:Int) (b:Int)=((a &&& b:Nat):Int):=by
  have h1:(BitVec.ofInt 64 (a:Int)).toNat=a:=by rw [BitVec.ofInt_natCast,BitVec.toNat_ofNat];exact Nat.mod_eq_of_lt (by omega)
  have h2:(BitVec.ofInt 64 (b:Int)).toNat=b:=by rw [BitVec.ofInt_natCast,BitVec.toNat_ofNat];exact Nat.mod_eq_of_lt (by omega)
  show IntKind.i64.wrap ((BitVec.ofInt 64 (a:Int) &&& BitVec.ofInt 64 (b:Int)).toNat:Int)=_
  rw [BitVec.toNat_and,h1,h2,IntKind.wrap_i64]
  have:a &&& b≤a:=Nat.and_le_left
  omega
theorem exp_i64 {y:Nat} (hy:W64 y):bits BinOp.and IntKind.i64 (wrap64 ((y:Int) / 4503599627370496)) 2047=((rg y / B52:Nat):Int):=by
  have h:=hy.lt
  have e:wrap64 ((y:Int) / 4503599627370496)=((y / 4503599627370496:Nat):Int):=by unfold wrap64;omega
  have:=bits_and_i64_nat (y / 4503599627370496) 2047 (by omega) (by decide)
  rw [e,show (2047:Int)=((2047:Nat):Int) from rfl,this,rg_eq]
  congr 1
  rw [show (2047:Nat)=2 ^ 11 - 1 from rfl,Nat.and_two_pow_sub_one_eq_mod]
  unfold B52
  omega
theorem normd_at64 {x y:Nat} {e:Int} (h:Normd x y e):∃ E:Nat,Hid (rg y / B52=E)∧1≤E∧E≤2046∧bits BinOp.and IntKind.u64 ((y:Int) / 4503599627370496) 2047=(E:Int)∧bits BinOp.and IntKind.i64 (wrap64 ((y:Int) / 4503599627370496)) 2047=(E:Int)∧(FloatKind.f64.format.order y 0 == some .lt)=neg x :=
  ⟨rg y / B52,Lib.hid rfl,(Nat.one_le_div_iff B52_pos).2 h.lo,Nat.le_of_lt_succ h.E,exp_u64 h.w,exp_i64 h.w,by
    rw [t_lt h.w (w_const (by decide)),plc0,isn0,isn_eq,← h.s,Bool.eq_iff_iff]
    have h1:=h.hi
    have h2:=h.lo
    unfold B52 at h2
    simp only [Bool.and_eq_true,Bool.not_eq_true',decide_eq_false_iff_not,decide_eq_true_eq,plc_lt_zero]
    constructor
    · intro h3;exact h3.2.1
    · intro h3;exact ⟨⟨by omega,by decide⟩,h3,by omega⟩⟩
theorem u64_keep {x E:Nat} (hx:W64 x) (hE:E < 2048):bits BinOp.or IntKind.u64 (bits BinOp.andNot IntKind.u64 (↑x) 9218868437227405312) ((E * B52:Nat):Int)=((wd (neg x) (E * B52 + rg x % B52):Nat):Int):=by
  have h:=hx.lt
  have h1:=u64_andNot_nat x 9218868437227405312 h (by decide)
  rw [show ((9218868437227405312:Nat):Int)=9218868437227405312 from rfl] at h1
  have h2:x &&& (18446744073709551615 - 9218868437227405312)=(if 9223372036854775808≤x then 9223372036854775808 else 0) ||| x % B52:=by
    rw [show (18446744073709551615 - 9218868437227405312:Nat)=2 ^ 63 ||| (2 ^ 52 - 1) from by decide,Nat.and_or_distrib_left,Nat.and_two_pow_sub_one_eq_mod]
    congr 1
    have h3:=u64_hi h
    have h4:=u64_and_nat x 9223372036854775808 h (by decide)
    rw [show ((9223372036854775808:Nat):Int)=9223372036854775808 from rfl] at h4
    rw [h4] at h3
    exact Int.ofNat_inj.1 h3
  have ht:x % B52 < 2 ^ 52:=Nat.mod_lt _ B52_pos
  have hrt:rg x % B52=x % B52:=by rw [rg_eq];unfold B52;omega
  have hs:(if 9223372036854775808≤x then 9223372036854775808 else 0) ||| x % B52=(if 9223372036854775808≤x then 9223372036854775808 else 0) + x % B52:=by
    split
    · exact (Nat.two_pow_add_eq_or_of_lt (i:=63) (by unfold B52 at *;omega) 1).symm
    · simp
  rw [h1,h2,u64_or_nat _ _ (by rw [hs];split <;> unfold B52 at * <;> omega) (by unfold B52;omega)]
  congr 1
  have h5:x % B52 ||| E * B52=E * B52 + x % B52:=by
    rw [Nat.or_comm,show E * B52=2 ^ 52 * E from by unfold B52;omega]
    exact (Nat.two_pow_add_eq_or_of_lt ht E).symm
  rw [Nat.or_assoc,h5,wd_eq,neg_eq,hrt]
  by_cases hh:9223372036854775808≤x
  · simp only [hh,if_true,decide_true]
    exact (Nat.two_pow_add_eq_or_of_lt (i:=63) (by unfold B52 at *;omega) 1).symm
  · simp [hh]
def FrexpPost (x:Nat) (w:World) (e:Ending) (w':World):Prop:=∃ y k,e=.returned (.tuple #[.float .f64 (wd (neg x) (1022 * B52 + rg y % B52)),.int .i64 (k + (rg y / B52:Nat) - 1022)])∧Normd x y k∧Dr w w'
theorem frexp_c (x:Nat) (hx:W64 x) (h0:0 < rg x) (h1:rg x < 9218868437227405312) (w:World):Calls Tryd.prog 95 #[.float .f64 x] w (FrexpPost x w):=by
  have k0:(FloatKind.f64.format.order x 0 == some .eq)=false:=by
    rw [t_eq hx (w_const (by decide)),plc0]
    have:¬ plc x=0:=by rw [plc_zero];omega
    simp [this]
  have k1:infS x 0=false:=by
    have:¬ rg x=9218868437227405312:=by omega
    simp [infS,this]
  have k2:isn x=false:=by rw [isn_eq];simp;omega
  go_enter Tryd.func95,Tryd.ntmps95
  go_wp2_with (first|(go_at_call 21;refine (isInf_c _ _ hx _).mono ?_;rintro e w' ⟨rfl,rfl⟩)|(go_at_call 36;refine (isNaN_c _ hx _).mono ?_;rintro e w' ⟨rfl,rfl⟩)|(go_at_call 98;refine (normalize_c _ hx h0 h1 _).mono ?_;rintro e w' ⟨y,k,rfl,hn,⟨⟨nq,rfl⟩⟩⟩;have hk1:=hn.k1;have hk2:=hn.k2;obtain ⟨E,HE,he1,he2,hy,hy',hy2⟩:=normd_at64 hn))
  go_ret2
  refine ⟨y,k,ret_float_int ?_ ?_,hn,Dr.n _ _⟩
  · have:=u64_keep hn.w (E:=1022) (by decide)
    rw [show ((1022 * B52:Nat):Int)=4602678819172646912 from by decide] at this
    rw [this,hn.s];rfl
  · rw [HE.out];omega
theorem frexp_cc (x:Nat) (hx:W64 x) (h0:0 < rg x) (h1:rg x < 9218868437227405312) (w:World):Calls Tryd.prog 83 #[.float .f64 x] w (FrexpPost x w):=by
  go_enter Tryd.func83,Tryd.ntmps83
  go_wp2_with (first|(go_at_call 95;refine (frexp_c _ hx h0 h1 _).mono ?_;rintro e w' ⟨y,k,rfl,hn,⟨⟨nq,rfl⟩⟩⟩))
  go_ret2
  exact ⟨y,k,rfl,hn,Dr.n _ _⟩
theorem csgn0 (y:Nat):csgn 0 y=wd (neg y) 0:=by unfold csgn;rw [show rg 0=0 from by decide]
theorem ld_bits {y:Nat} (hy:W64 y) (X:Int) (h0:0≤X) (h1:X < 2048):(bits BinOp.or IntKind.u64 (bits BinOp.andNot IntKind.u64 (↑y) 9218868437227405312) (X * 4503599627370496)).toNat=wd (neg y) (X.toNat * B52 + rg y % B52):=by
  have:=u64_keep hy (E:=X.toNat) (by omega)
  have e:((X.toNat * B52:Nat):Int)=X * 4503599627370496:=by unfold B52;omega
  rw [e] at this
  rw [this];rfl
def LdexpPost (x:Nat) (k:Int) (w:World) (e:Ending) (w':World):Prop:=∃ z,e=.returned (.float .f64 z)∧IsLd x k z∧Dr w w'
theorem ldexp_c (x:Nat) (k:Int) (hx:W64 x) (h0:0 < rg x) (h1:rg x < 9218868437227405312) (hk1:-100000≤k) (hk2:k≤100000) (w:World):Calls Tryd.prog 97 #[.float .f64 x,.int .i64 k] w (LdexpPost x k w):=by
  have k0:(FloatKind.f64.format.order x 0 == some .eq)=false:=by
    rw [t_eq hx (w_const (by decide)),plc0]
    have:¬ plc x=0:=by rw [plc_zero];omega
    simp [this]
  have k1:infS x 0=false:=by
    have:¬ rg x=9218868437227405312:=by omega
    simp [infS,this]
  have k2:isn x=false:=by rw [isn_eq];simp;omega
  go_enter Tryd.func97,Tryd.ntmps97
  go_wp2_with (first|(go_at_call 21;refine (isInf_c _ _ hx _).mono ?_;rintro e w' ⟨rfl,rfl⟩)|(go_at_call 36;refine (isNaN_c _ hx _).mono ?_;rintro e w' ⟨rfl,rfl⟩)|(go_at_call 98;refine (normalize_c _ hx h0 h1 _).mono ?_;rintro e w' ⟨y,e1,rfl,hn,⟨⟨nq,rfl⟩⟩⟩;have hq1:=hn.k1;have hq2:=hn.k2;obtain ⟨E,HE,he1,he2,hy,hy',hy2⟩:=normd_at64 hn)|(go_at_call 37;refine (copysign_c _ _ (w_const (by decide)) hn.w _).mono ?_;rintro e w' ⟨rfl,rfl⟩)|(go_at_call 99;refine (inf_c _ _).mono ?_;rintro e w' ⟨rfl,rfl⟩)|(refine wp_arith .f64 _ _ rfl rfl rfl ?_;intro r n hr))
  all_goals go_ret
  · exact ⟨_,rfl,by rw [csgn0,hn.s];exact isLd_under hn (e:=k) (k + e1 + ((E:Int) - 1023)) (by rw [HE.out];omega) (by assumption),Dr.n _ _⟩
  · refine ⟨_,rfl,?_,Dr.n _ _⟩
    have h:=isLd_over hn (e:=k) (k + e1 + ((E:Int) - 1023)) (by rw [HE.out];omega) (by assumption)
    rw [‹neg x=true›] at h
    exact h
  · refine ⟨_,rfl,?_,Dr.n _ _⟩
    have h:=isLd_over hn (e:=k) (k + e1 + ((E:Int) - 1023)) (by rw [HE.out];omega) (by assumption)
    rw [‹neg x=false›] at h
    exact h
  · obtain ⟨z,hz,hl⟩:=isLd_sub hn (e:=k) (k + e1 + ((E:Int) - 1023)) (by rw [HE.out];omega) (by assumption) (by assumption)
    rw [← hn.s,← ld_bits hn.w _ (by omega) (by omega)] at hz
    obtain rfl:=fr_some hr hz
    exact ⟨_,rfl,hl,Dr.n _ _⟩
  · have hl:=isLd_norm hn (e:=k) (k + e1 + ((E:Int) - 1023)) (by rw [HE.out];omega) (by assumption) (by assumption)
    have hR:(k + e1 + ((E:Int) - 1023) + 1023).toNat * B52 + rg y % B52 < 9218868437227405312:=by
      have:=Nat.mod_lt (rg y) B52_pos
      unfold B52 at *
      omega
    have hz:=mul_one64 (wd_w (s:=neg y) (r:=(k + e1 + ((E:Int) - 1023) + 1023).toNat * B52 + rg y % B52) (by omega)) (by rw [wd_rg (by omega)];exact hR)
    rw [← ld_bits hn.w _ (by omega) (by omega)] at hz
    obtain rfl:=fr_some hr hz
    rw [ld_bits hn.w _ (by omega) (by omega),hn.s]
    exact ⟨_,rfl,hl,Dr.n _ _⟩
theorem ldexp_cc (x:Nat) (k:Int) (hx:W64 x) (h0:0 < rg x) (h1:rg x < 9218868437227405312) (hk1:-100000≤k) (hk2:k≤100000) (w:World):Calls Tryd.prog 84 #[.float .f64 x,.int .i64 k] w (LdexpPost x k w):=by
  go_enter Tryd.func84,Tryd.ntmps84
  go_wp2_with (first|(go_at_call 97;refine (ldexp_c _ _ hx h0 h1 hk1 hk2 _).mono ?_;rintro e w' ⟨z,rfl,hl,⟨⟨nq,rfl⟩⟩⟩))
  go_ret
  exact ⟨z,rfl,hl,Dr.n _ _⟩
theorem ldexp_0 (x:Nat) (k:Int) (hx:W64 x) (h0:rg x=0) (w:World):Calls Tryd.prog 97 #[.float .f64 x,.int .i64 k] w fun e w'=>e=.returned (.float .f64 x)∧w'=w:=by
  have k0:(FloatKind.f64.format.order x 0 == some .eq)=true:=by
    rw [t_eq hx (w_const (by decide)),plc0,isn0,isn_eq]
    have:plc x=0:=by rw [plc_zero];exact h0
    simp [this,h0]
  go_enter Tryd.func97,Tryd.ntmps97
  go_wp2
  go_ret
  exact ⟨rfl,rfl⟩
theorem ldexp_00 (x:Nat) (k:Int) (hx:W64 x) (h0:rg x=0) (w:World):Calls Tryd.prog 84 #[.float .f64 x,.int .i64 k] w fun e w'=>e=.returned (.float .f64 x)∧w'=w:=by
  go_enter Tryd.func84,Tryd.ntmps84
  go_wp2_with (first|(go_at_call 97;refine (ldexp_0 _ _ hx h0 _).mono ?_;rintro e w' ⟨rfl,rfl⟩))
  go_ret
  exact ⟨rfl,rfl⟩
end Go.Proofs.YtalhpbilkhdfhaaDoor
namespace Go.Proofs.YtalhpbilkhdfhaaDoor
open Go Go.Shelf
def lays129_ren:Go.Shelf.Ren:=⟨fun|129=>72|n=>n,fun|53=>54|3=>3|4=>4|46=>61|5=>5|9=>9|n=>n,fun|n=>n⟩
theorem lays129:Go.Proofs.Lays.n129 Tryd.prog lays129_ren:={
  mixed:=by kernel_rfl
  f129:=Tryd.func72.trans (congrArg some (by kernel_rfl))
  t3:=Tryd.underlying3
  a3:=Tryd.isAgg3
  z3:=Tryd.sizeOf3
  v3:=Tryd.zeroValue3
  t4:=Tryd.underlying4
  a4:=Tryd.isAgg4
  z4:=Tryd.sizeOf4
  v4:=Tryd.zeroValue4
  t5:=Tryd.underlying5
  a5:=Tryd.isAgg5
  z5:=Tryd.sizeOf5
  v5:=Tryd.zeroValue5
  t9:=Tryd.underlying9
  a9:=Tryd.isAgg9
  z9:=Tryd.sizeOf9
  v9:=Tryd.zeroValue9
  t46:=Tryd.underlying61
  a46:=Tryd.isAgg61
  z46:=Tryd.sizeOf61
  v46:=Tryd.zeroValue61
  t53:=Tryd.underlying54
  a53:=Tryd.isAgg54
  z53:=Tryd.sizeOf54
  v53:=Tryd.zeroValue54 }
theorem len64_c (x:Nat) (h:x < 18446744073709551616) (w:World) :
    Calls Tryd.prog 72 #[.int .u64 x] w fun e w'=>e=.returned (.int .i64 (Lib.bitLen x))∧w'=w :=
  Any.bits_Len64 lays129 x w (by omega) (by omega)
end Go.Proofs.YtalhpbilkhdfhaaDoor
namespace Go.Proofs.YtalhpbilkhdfhaaDoor
open Go Go.RowKit GFl
set_option maxRecDepth 100000
attribute [local go_sem] run_f64bits run_f64frombits run_neg_f64
def Tab (w:World):Prop:=TabAt 1 Lib.deBruijn64tab w
theorem Tab.below {w w1:World} (h:Tab w) (hb:Below w.heap.size w w1):Tab w1:=fun j hj=>by
  have hc:=h j hj
  exact (hb.cell (World.block_lt_of_cell? w _ hc)).trans hc
theorem tz64_z (w:World):Calls Tryd.prog 78 #[.int .u64 0] w fun e w'=>e=.returned (.int .i64 64)∧w'=w:=by
  go_enter Tryd.func78,Tryd.ntmps78
  go_wp2
  go_ret
  exact ⟨rfl,rfl⟩
theorem tz64_core (x k idx:Nat) (w:World) (hx0:((x:Int) == 0)=false)
    (key:IntKind.u64.wrap (bits BinOp.and IntKind.u64 (x:Int) (IntKind.u64.wrap (-(x:Int))) * 285870213051353865) / 288230376151711744=(idx:Int))
    (hi:idx < 64) (hk:k < 64) (hcell:w.cell? ⟨1,idx,none⟩=some (.int .u8 k)) :
    Calls Tryd.prog 78 #[.int .u64 x] w fun e w'=>e=.returned (.int .i64 k)∧w'=w:=by
  go_enter Tryd.func78,Tryd.ntmps78
  go_wp2_with (simp only [key])
  go_ret
  exact ⟨rfl,rfl⟩
theorem tz64_c (x:Nat) (hx:x < 18446744073709551616) (w:World) (hT:Tab w) :
    Calls Tryd.prog 78 #[.int .u64 x] w fun e w'=>e=.returned (.int .i64 (Lib.ctz 64 x))∧w'=w:=by
  by_cases hx0:x=0
  · subst hx0
    exact tz64_z w
  · obtain ⟨hlow,hk⟩:=Lib.lowest_bit 64 x hx0 hx
    obtain ⟨hi,htab⟩:=Lib.deBruijn64_at _ hk
    have hcell:=hT _ hi
    rw [htab] at hcell
    exact tz64_core x _ _ w (by simp;omega) (tz64_key x _ hx hx0 hlow) hi hk hcell
theorem f2u {z m:Nat} (hz:W64 z) (hf:rg z < 9218868437227405312) (hn:neg z=false) (hm:mg B52 (rg z)=m * p2 1074) (hm1:m < 18446744073709551616):floatToIntVal .f64 z .u64=some (m:Int):=by
  have h:=toInt_whole hz hf hn hm
  have h':(FloatKind.f64.decode z).toInt .zero=some (m:Int):=h
  unfold floatToIntVal
  rw [h']
  have a1:IntKind.u64.min=0:=by decide
  have a2:IntKind.u64.max=18446744073709551615:=by decide
  simp only [a1,a2]
  rw [if_pos (by omega)]
def SplitPost (x:Nat) (w:World) (e:Ending) (w':World):Prop:=∃ fr ex,e=.returned (.tuple #[.agg #[.bool (neg x),.int .u64 (fr:Nat),.int .i64 ex],.bool true])∧IsSplit x fr ex∧fr < 9007199254740992∧ex≤1023∧Below w.heap.size w w'
set_option maxHeartbeats 2000000 in
theorem split_yes (x:Nat) (hx:W64 x) (h0:0 < rg x) (h1:rg x < 9218868437227405312) (w:World) (hT:Tab w):Calls Tryd.prog 61 #[.float .f64 x] w (SplitPost x w):=by
  have hk:¬ 2 < kindF x:=by unfold kindF;(repeat' split) <;> omega
  have k0:(FloatKind.f64.format.order x 0 == some .eq)=false:=by
    rw [t_eq hx (w_const (by decide)),plc0]
    have:¬ plc x=0:=by rw [plc_zero];omega
    simp [this]
  go_enter Tryd.func61,Tryd.ntmps61
  go_wp2_with (first|(go_at_call 82;refine (kind_c _ hx _).mono ?_;rintro e w' ⟨rfl,rfl⟩)|(go_at_call 19;refine (signbit_c _ hx _).mono ?_;rintro e w' ⟨rfl,rfl⟩)|(go_at_call 14;refine (abs_c _ hx _).mono ?_;rintro e w' ⟨rfl,rfl⟩))
  refine (frexp_cc _ (fabs_w x) (by rw [fabs_rg];exact h0) (by rw [fabs_rg];exact h1) _).mono ?_
  rintro e w1 ⟨y,k,rfl,hn,⟨⟨nq,rfl⟩⟩⟩
  have hk1:=hn.k1
  have hk2:=hn.k2
  have he2:=hn.E
  obtain ⟨E,hE⟩:∃ E,rg y / B52=E:=⟨_,rfl⟩
  rw [hE]
  rw [hE] at he2
  have HE:=Lib.hid hE
  clear hE
  have ht:rg y % B52 < B52:=Nat.mod_lt _ B52_pos
  have hR:1022 * B52 + rg y % B52 < 9218868437227405312:=by unfold B52 at *;omega
  have hR63:1022 * B52 + rg y % B52 < 9223372036854775808:=by omega
  rw [fabs_neg]
  go_wp2_with fail
  refine (ldexp_cc _ _ (wd_w hR63) (by rw [wd_rg hR63];unfold B52;omega) (by rw [wd_rg hR63];exact hR) (by omega) (by omega) _).mono ?_
  rintro e w1 ⟨z,rfl,hl,⟨⟨nq2,rfl⟩⟩⟩
  obtain ⟨z1,z2,z3,z4⟩:=split_m ht hl
  obtain ⟨m,hm⟩:∃ m,B52 + rg y % B52=m:=⟨_,rfl⟩
  rw [hm] at z4
  have hm1:m < 9007199254740992:=by unfold B52 at *;omega
  have hm0:0 < m:=by unfold B52 at *;omega
  have hcv:∀ w,(convert 22 54 (.float .f64 z)).run Tryd.prog w=.ok (.int .u64 (m:Nat)) w:=fun w=>run_convert_float_int w _ _ .f64 .u64 z m rfl rfl (f2u z1 z2 z3 z4 (by omega))
  obtain ⟨j,hj,hn63⟩:=Lib.ctzFrom_spec 64 m hm0 (by omega)
  have hct:Lib.ctz 64 m=Lib.ctzFrom 64 m:=by unfold Lib.ctz;rw [if_neg (by omega)]
  rw [← hct] at hj hn63
  have Z:=Lib.hid (And.intro z1 (And.intro z2 (And.intro z3 z4)))
  have HM:=Lib.hid hm
  have HJ:=Lib.hid hj
  clear z1 z2 z3 z4 hm hj hct ht hR hR63
  go_wp2_with fail
  refine (tz64_c m (by omega) _ ?_).mono ?_
  · exact hT.below (by repeat' (first|(with_reducible exact Below.refl _ _)|(with_reducible refine bl_alloc ?_ _)|(with_reducible refine bl_drewN ?_ _)|(with_reducible refine bl_drew ?_)|(with_reducible refine bl_set ?_ _ (by simp))))
  rintro e w1 ⟨rfl,rfl⟩
  go_wp2
  have hok:=split_ok (n:=Lib.ctz 64 m) (j:=j) hn (by rw [p2_def];exact HM.out.trans HJ.out)
  have hc53:Lib.ctz 64 m < 53:=by
    rcases Nat.lt_or_ge (Lib.ctz 64 m) 53 with h|h
    · exact h
    · have h2:2 ^ 53≤2 ^ Lib.ctz 64 m:=Nat.pow_le_pow_right (by decide) h
      have h3:=HJ.out
      have h4:2 ^ Lib.ctz 64 m≤2 ^ Lib.ctz 64 m * (2 * j + 1):=Nat.le_mul_of_pos_right _ (by omega)
      omega
  rw [HE.out] at hok
  have hdiv:(m:Int) / 2 ^ Lib.ctz 64 m=((2 * j + 1:Nat):Int):=by
    have h1:m / 2 ^ Lib.ctz 64 m=2 * j + 1:=by
      have:=HJ.out
      conv=>lhs;lhs;rw [this]
      exact Nat.mul_div_cancel_left _ (Nat.two_pow_pos _)
    rw [← h1];simp
  have hlt:2 * j + 1 < 9007199254740992:=by
    have h1:m / 2 ^ Lib.ctz 64 m≤m:=Nat.div_le_self _ _
    have h2:m / 2 ^ Lib.ctz 64 m=2 * j + 1:=by
      have:=HJ.out
      conv=>lhs;lhs;rw [this]
      exact Nat.mul_div_cancel_left _ (Nat.two_pow_pos _)
    omega
  refine bodyPost_ret (v:=.tuple #[.agg #[.bool (neg x),.int .u64 ((m:Int) / 2 ^ Lib.ctz 64 m),.int .i64 (k + (E:Int) - 1022 - 53 + (Lib.ctz 64 m:Nat))],.bool true]) (by simp [results,Tryd.results61,go_sem]) rfl ?_
  rw [hdiv]
  refine ⟨2 * j + 1,k + (E:Int) - 1022 - 53 + (Lib.ctz 64 m:Nat),rfl,?_,hlt,by omega,?_⟩
  · exact ⟨hok.odd,hok.lo,by rw [hok.eq,fabs_rg]⟩
  · repeat' (first|(with_reducible exact Below.refl _ _)|(with_reducible refine bl_alloc ?_ _)|(with_reducible refine bl_drewN ?_ _)|(with_reducible refine bl_drew ?_)|(with_reducible refine bl_set ?_ _ (by simp)))
theorem split_z (x:Nat) (hx:W64 x) (h0:rg x=0) (w:World):Calls Tryd.prog 61 #[.float .f64 x] w fun e w'=>e=.returned (.tuple #[.agg #[.bool (neg x),.int .u64 0,.int .i64 0],.bool true])∧Below w.heap.size w w':=by
  have hk:¬ 2 < kindF x:=by unfold kindF;(repeat' split) <;> omega
  have k0:(FloatKind.f64.format.order x 0 == some .eq)=true:=by
    rw [t_eq hx (w_const (by decide)),plc0,isn0,isn_eq]
    have:plc x=0:=by rw [plc_zero];exact h0
    simp [this,h0]
  go_enter Tryd.func61,Tryd.ntmps61
  go_wp2_with (first|(go_at_call 82;refine (kind_c _ hx _).mono ?_;rintro e w' ⟨rfl,rfl⟩)|(go_at_call 19;refine (signbit_c _ hx _).mono ?_;rintro e w' ⟨rfl,rfl⟩))
  refine bodyPost_ret (v:=.tuple #[.agg #[.bool (neg x),.int .u64 0,.int .i64 0],.bool true]) (by simp [results,Tryd.results61,go_sem]) rfl ⟨rfl,?_⟩
  repeat' (first|(with_reducible exact Below.refl _ _)|(with_reducible refine bl_alloc ?_ _)|(with_reducible refine bl_drewN ?_ _)|(with_reducible refine bl_drew ?_)|(with_reducible refine bl_set ?_ _ (by simp)))
end Go.Proofs.YtalhpbilkhdfhaaDoor
namespace Go.Proofs.YtalhpbilkhdfhaaDoor
open Go Go.RowKit Nv GFl
set_option maxRecDepth 100000
def NPost (v:Int) (w:World) (e:Ending) (w':World):Prop:=∃ b,e=.returned (pt b)∧w.heap.size≤b∧IntAt w' b v∧Below w.heap.size w w'
theorem words_w' (x:Nat) (hx:x < 18446744073709551616) (X:Int) (hX:X=x) (w:World):Calls Tryd.prog 87 #[.int .u64 X] w (WPost x w):=by subst hX;exact words_w x hx w
theorem setI_c {w:World} {z:Nat} {u:Int} (hz:IntAt w z u) (v:Int) (h1:-9223372036854775808≤v) (h2:v≤9223372036854775807):Calls Tryd.prog 77 #[pt z,.int .i64 v] w (GPost z v w):=by
  obtain ⟨zg,zs,a,hz⟩:=hz.rd
  have HZ0:=Lib.hid hz
  clear hz
  by_cases hv:v < 0
  · have w1:IntKind.u64.wrap v=v + 18446744073709551616:=by rw [IntKind.wrap_u64];omega
    have w2:IntKind.u64.wrap (-(v + 18446744073709551616))=-v:=by rw [IntKind.wrap_u64];omega
    have ww:∀ w,Calls Tryd.prog 87 #[.int .u64 (-v)] w (WPost v.natAbs w):=fun w=>words_w' v.natAbs (by omega) _ (by omega) w
    have d0:decide (v < 0)=true:=decide_eq_true hv
    have e0:sg true (v.natAbs:Int)=v:=by unfold sg;simp;omega
    have E0:=Lib.hid e0
    have WW:=Lib.hid ww
    clear hv h1 h2 e0 ww
    obtain ⟨X,hX⟩:∃ X,v + 18446744073709551616=X:=⟨_,rfl⟩
    rw [hX] at w1 w2
    have HX:=Lib.hid hX
    clear hX
    go_enter Tryd.func77,Tryd.ntmps77
    go_wp2_with (first
      | (go_at_call 87;refine (WW.out _).mono ?_;rintro e w1 ⟨v1,rfl,hW,hb⟩;have HW:=Lib.hid hW;have HB:=Lib.hid hb;clear hW hb)
      | (go_at_call 68;refine (give_c (HZ0.out.blk.below HB.out) HZ0.out.wd.sl HW.out true).mono ?_;rintro e w2 ⟨rfl,hI,hz⟩;have HI:=Lib.hid hI;have HZ:=Lib.hid hz;clear hI hz))
    go_ret
    exact ⟨rfl,by rw [← E0.out];exact HI.out,(Bz.of HB.out).trans HZ.out⟩
  · have w1:IntKind.u64.wrap v=v:=by rw [IntKind.wrap_u64];omega
    have ww:∀ w,Calls Tryd.prog 87 #[.int .u64 v] w (WPost v.natAbs w):=fun w=>words_w' v.natAbs (by omega) _ (by omega) w
    have d0:decide (v < 0)=false:=decide_eq_false hv
    have e0:sg false (v.natAbs:Int)=v:=by unfold sg;simp;omega
    have E0:=Lib.hid e0
    have WW:=Lib.hid ww
    clear hv h1 h2 e0 ww
    go_enter Tryd.func77,Tryd.ntmps77
    go_wp2_with (first
      | (go_at_call 87;refine (WW.out _).mono ?_;rintro e w1 ⟨v1,rfl,hW,hb⟩;have HW:=Lib.hid hW;have HB:=Lib.hid hb;clear hW hb)
      | (go_at_call 68;refine (give_c (HZ0.out.blk.below HB.out) HZ0.out.wd.sl HW.out false).mono ?_;rintro e w2 ⟨rfl,hI,hz⟩;have HI:=Lib.hid hI;have HZ:=Lib.hid hz;clear hI hz))
    go_ret
    exact ⟨rfl,by rw [← E0.out];exact HI.out,(Bz.of HB.out).trans HZ.out⟩
theorem newInt_c (v:Int) (h1:-9223372036854775808≤v) (h2:v≤9223372036854775807) (w:World):Calls Tryd.prog 55 #[.int .i64 v] w (NPost v w):=by
  have iz:=IntAt.zero w
  have IZ:=Lib.hid iz
  clear iz
  go_enter Tryd.func55,Tryd.ntmps55
  go_wp2_with (first
    | (go_at_call 77;refine (setI_c IZ.out v h1 h2).mono ?_;rintro e w2 ⟨rfl,hI,hz⟩;have HI:=Lib.hid hI;have HZ:=Lib.hid hz;clear hI hz))
  go_ret
  exact ⟨_,rfl,Nat.le_refl _,HI.out,HZ.out.below ((Below.refl _ _).alloc (Nat.le_refl _) _) (by simp) (Nat.le_refl _)⟩
end Go.Proofs.YtalhpbilkhdfhaaDoor
namespace Go.Proofs.YtalhpbilkhdfhaaDoor
open Go Go.RowKit Nv
open Go.Proofs.YtalhpbilkhdfhaaDoorW.PrintWords (Kd)
open XBn
set_option maxRecDepth 100000
set_option linter.unusedSimpArgs false
def Lw (l:List Int):Prop:=∀ p ∈ l,0≤p∧p < 18446744073709551616
def lvN:List Int→Nat
  | []=>0
  | p :: r=>p.toNat + 18446744073709551616 * lvN r
theorem lvN_drop {l:List Int} {j:Nat} (h:j < l.length):lvN (l.drop j)=l[j].toNat + 18446744073709551616 * lvN (l.drop (j + 1)):=by
  rw [List.drop_eq_getElem_cons h];rfl
theorem lvN_lt:∀ {l:List Int},Lw l→lvN l < 2 ^ (64 * l.length)
  | [],_=>by show (0:Nat) < _;exact Nat.two_pow_pos _
  | p :: r,h=>by
    have h1:=h p (by simp)
    have h2:=lvN_lt (l:=r) (fun q hq=>h q (by simp [hq]))
    have e:64 * (p :: r).length=64 * r.length + 64:=by simp;omega
    rw [e,Nat.pow_add]
    show p.toNat + 18446744073709551616 * lvN r < _
    have h3:p.toNat < 18446744073709551616:=by omega
    generalize (2:Nat) ^ (64 * r.length)=z at *
    omega
theorem Lw.drop {l:List Int} (h:Lw l) (n:Nat):Lw (l.drop n):=fun p hp=>h p (List.mem_of_mem_drop hp)
theorem bs_pw (n:Nat):bs n=((2 ^ (32 * n):Nat):Int):=by rw [Nat.pow_mul];unfold bs;rw [Int.natCast_pow];rfl
theorem sm_gen {x k n:Nat} (h:x < 2 ^ (64 * k)) (hk:64 * k≤32 * n):(x:Int) < bs n:=by
  rw [bs_pw]
  exact Int.ofNat_lt.2 (Nat.lt_of_lt_of_le h (Nat.pow_le_pow_right (by decide) hk))
theorem sm_pw {x k:Nat} (h:x < 2 ^ (64 * k)) (hk:k≤100000):Sm (x:Int):=sm_gen h (by omega)
theorem sm_le {a b k:Nat} (h:a≤b) (hb:b < 2 ^ (64 * k)) (hk:k≤100000):Sm (a:Int):=sm_pw (Nat.lt_of_le_of_lt h hb) hk
theorem or_limb (n t:Nat) (h:t < 18446744073709551616):(n * 18446744073709551616) ||| t=t + 18446744073709551616 * n:=by
  rw [Nat.mul_comm,show (18446744073709551616:Nat)=2 ^ 64 by decide,← Nat.two_pow_add_eq_or_of_lt (by simpa using h),Nat.add_comm]
set_option maxHeartbeats 4000000 in
theorem dwhole_c {W:World} (g:Bool) (A:Option Addr) (c:Nat) (l:List Int) (x:Int) (hC:Kd.C (Kd.int .u64) W A l.length l) (hw:Lw l) (hl:l.length≤90000) :
    Calls Tryd.prog 43 #[.agg #[.bool g,.slice A l.length c,.int .i64 x]] W fun e w'=>∃ b,e=.returned (pt b)∧W.heap.size≤b∧IntAt w' b (sg g (lvN l))∧Below W.heap.size W w':=by
  have HC:Hid (0 < l.length→∃ ad,A=some ad∧∀ j (hj:j < l.length),W.cell? (ad.add j)=some (.int .u64 l[j])):=Lib.hid (fun h0=>by
    obtain ⟨ad,e,hc⟩:=hC.2.2 h0
    refine ⟨ad,e,fun j hj=>?_⟩
    obtain ⟨cs,_,hK,hcs⟩:=hc j _ (List.getElem?_eq_getElem hj)
    have hK:cs=[.int .u64 l[j]]:=hK
    subst hK
    have:=hcs 0 _ rfl
    rw [show (Kd.int IntKind.u64).sz=1 from rfl] at this
    simpa using this)
  have HW:=Lib.hid hw
  have HL:=Lib.hid hl
  clear hC hw hl
  obtain ⟨D,hD⟩:∃ D,Obj.cells #[.bool g,.slice A l.length c,.int .i64 x] 44 (0,0)=D:=⟨_,rfl⟩
  have B0:Hid (Below W.heap.size W ((W.alloc (.cells #[.bool g,.slice A l.length c,.int .i64 x] 44)).alloc (.cells #[.bool false,.slice none 0 0] 76))):=Lib.hid (by repeat' (first|(with_reducible exact Below.refl _ _)|(with_reducible refine bl_alloc ?_ _)|(with_reducible refine bl_drewN ?_ _)|(with_reducible refine bl_drew ?_)|(with_reducible refine bl_set ?_ _ (by simp))))
  have I0:=Lib.hid (IntAt.zero (W.alloc (.cells #[.bool g,.slice A l.length c,.int .i64 x] 44)))
  have K0:=Lib.hid (kb_alloc (o':=.cells #[.bool false,.slice none 0 0] 76) (kb_new (w:=W) (o:=.cells #[.bool g,.slice A l.length c,.int .i64 x] 44) (Below.refl _ _)))
  have s1:(W.alloc (.cells #[.bool g,.slice A l.length c,.int .i64 x] 44)).heap.size=W.heap.size + 1:=by simp
  rw [s1] at I0
  have d0:=kb_cell K0.out (i:=1) rfl
  clear hD D
  go_enter Tryd.func43,Tryd.ntmps43
  go_wp2
  obtain ⟨w1,hw1⟩:∃ w,((W.alloc (.cells #[.bool g,.slice A l.length c,.int .i64 x] 44)).alloc (.cells #[.bool false,.slice none 0 0] 76))=w:=⟨_,rfl⟩
  rw [hw1] at B0 I0 K0
  simp only [hw1]
  clear hw1 d0 s1
  go_loopw [9,4] (fun v9 _ wr=>∃ i:Nat,v9=.int .i64 i∧i≤l.length∧Hid (Below W.heap.size W wr∧wr.heap[W.heap.size]?=some (.cells #[.bool g,.slice A l.length c,.int .i64 x] 44 (0,0))∧IntAt wr (W.heap.size + 1) (lvN (l.drop (l.length - i))))) (fun v9 _ _=>l.length - (intOf v9).toNat)
  case atStart=>exact ⟨0,rfl,Nat.zero_le _,Lib.hid ⟨B0.out,K0.out,by rw [Nat.sub_zero,List.drop_length];exact I0.out⟩⟩
  case round =>
    obtain ⟨i,rfl,hin,hq⟩:=hrel
    clear B0 I0 K0
    by_cases hlt:i < l.length
    · have l1:decide (i < l.length)=true:=decide_eq_true hlt
      obtain ⟨j,hj⟩:∃ j,l.length - 1 - i=j:=⟨_,rfl⟩
      have hjl:j < l.length:=by omega
      have e1:l.length - i=j + 1:=by omega
      have e2:l.length - (i + 1)=j:=by omega
      have hlb:=HL.out
      have wi:wrap64 ((i:Int) + 1)=((i + 1:Nat):Int):=by unfold wrap64;omega
      have wj1:wrap64 ((l.length:Int) - 1)=(l.length:Int) - 1:=by clear wi;unfold wrap64;omega
      have wj2:wrap64 ((l.length:Int) - 1 - (i:Int))=(j:Int):=by clear wi wj1;unfold wrap64;omega
      have hpos:0 < l.length:=by omega
      obtain ⟨ad,hA,hcell⟩:=HC.out hpos
      subst hA
      have cj:=hcell j hjl
      have dj:=HW.out _ (List.getElem_mem hjl)
      obtain ⟨P,hP⟩:∃ P:Nat,l[j]=(P:Int):=⟨l[j].toNat,(Int.toNat_of_nonneg dj.1).symm⟩
      rw [hP] at cj dj
      have pl:P < 18446744073709551616:=by clear wi wj1 wj2;omega
      have hI:=hq.out.2.2
      rw [e1] at hI
      obtain ⟨N,hN⟩:∃ N,lvN (l.drop (j + 1))=N:=⟨_,rfl⟩
      rw [hN] at hI
      have hnx:lvN (l.drop j)=P + 18446744073709551616 * N:=by rw [lvN_drop hjl,hN,hP,Int.toNat_natCast]
      have hl1:N≤P + 18446744073709551616 * N:=by clear wi wj1 wj2;omega
      have hl2:N * 18446744073709551616≤P + 18446744073709551616 * N:=by clear wi wj1 wj2;omega
      have hl3:P≤P + 18446744073709551616 * N:=by clear wi wj1 wj2;omega
      have hK:(l.drop j).length≤100000:=by clear wi wj1 wj2;rw [List.length_drop];omega
      have hNx:=lvN_lt (HW.out.drop j)
      rw [hnx] at hNx
      have SM1:=Lib.hid (sm_le hl1 hNx hK)
      have SM2:Hid (Sm ((N * 18446744073709551616:Nat):Int)):=Lib.hid (sm_le hl2 hNx hK)
      have SM3:Hid (Sm (P:Int)):=Lib.hid (sm_le hl3 hNx hK)
      clear hl1 hl2 hl3 hK hNx
      have II:=Lib.hid hI
      have LS0:=lsh_c hI hI 64 (by decide) (by simpa using SM1.out)
      have HB:=Lib.hid hq.out.1
      have HK:=Lib.hid hq.out.2.1
      have j0:(0:Int)≤(j:Int):=Int.natCast_nonneg _
      have j1:(j:Int) < (l.length:Int):=by clear wi wj1 wj2;omega
      have CJ:Hid (W.cell? (ad.add (l.length - 1 - i))=some (.int .u64 (P:Int))):=Lib.hid (by rw [hj];exact cj)
      have jj0:(0:Int)≤(l.length:Int) - 1 - (i:Int):=by clear wi wj1 wj2;omega
      have jj1:(l.length:Int) - 1 - (i:Int) < (l.length:Int):=by clear wi wj1 wj2;omega
      have PL:=Lib.hid pl
      have HNX:=Lib.hid hnx
      have EJ:=Lib.hid e2
      have HLT:=Lib.hid hlt
      have VV:(N:Int) * 2 ^ 64=((N * 18446744073709551616:Nat):Int):=by rw [Int.natCast_mul];rfl
      rw [VV] at LS0
      have LS:Hid (Calls Tryd.prog 47 #[pt (W.heap.size + 1),pt (W.heap.size + 1),.int .u64 64] wr (GPost (W.heap.size + 1) ((N * 18446744073709551616:Nat):Int) wr)):=Lib.hid LS0
      have SU:Hid (∀ w:World,Calls Tryd.prog 63 #[pt w.heap.size,.int .u64 (P:Int)] (w.alloc (.cells #[.bool false,.slice none 0 0] 76)) (GPost w.heap.size (P:Int) (w.alloc (.cells #[.bool false,.slice none 0 0] 76)))):=Lib.hid (fun w=>setU_c (IntAt.zero w) P PL.out)
      have OR:Hid (∀ w bt,IntAt w (W.heap.size + 1) ((N * 18446744073709551616:Nat):Int)→IntAt w bt (P:Int)→Calls Tryd.prog 62 #[pt (W.heap.size + 1),pt (W.heap.size + 1),pt bt] w fun e w'=>e=.returned (pt (W.heap.size + 1))∧IntAt w' (W.heap.size + 1) (lvN (l.drop j))∧Bz (W.heap.size + 1) w w'):=Lib.hid (fun w bt h1 h2=>(ior_c h1 h1 h2 (Int.natCast_nonneg _) (Int.natCast_nonneg _) SM2.out SM3.out).mono fun e w' ⟨e1,e2,e3⟩=>⟨e1,by rw [Int.toNat_natCast,Int.toNat_natCast,or_limb _ _ PL.out,← HNX.out] at e2;exact e2,e3⟩)
      clear hq hcell hI hnx hP hN hj hjl e1 e2 dj cj pl VV hlt LS0
      go_wp2_with (first
        | (go_at_call 47;(with_reducible refine (LS.out).mono ?_);rintro e w2 ⟨rfl,hI2,hz2⟩;have I2:=Lib.hid hI2;have B2:=Lib.hid (Bz.below HB.out hz2 HB.out.size (by omega));have K2:=Lib.hid ((hz2.block W.heap.size (by have:=II.out.lt;omega) (by omega)).trans HK.out);have d1:=kb_cell (kb_alloc (o':=.cells #[.bool false,.slice none 0 0] 76) K2.out) (i:=1) rfl;have cj:=kb_cX (bl_alloc B2.out (.cells #[.bool false,.slice none 0 0] 76)) CJ.out;clear hI2 hz2)
        | (go_at_call 63;(with_reducible refine (SU.out _).mono ?_);rintro e w3 ⟨rfl,hI3,hz3⟩;have I3:=Lib.hid hI3;have I2:=Lib.hid ((I2.out.alloc _).keep (IntAt.zero w2) (Nat.ne_of_lt I2.out.lt) hz3);have B3:=Lib.hid (Bz.below (bl_alloc B2.out _) hz3 (Nat.le_trans B2.out.size (by simp)) B2.out.size);have K3:=Lib.hid ((hz3.block W.heap.size (by have:=kb_lt K2.out;simp;omega) (by have:=kb_lt K2.out;omega)).trans (kb_alloc K2.out));clear hI3 hz3)
        | (go_at_call 62;(with_reducible refine (OR.out _ _ I2.out I3.out).mono ?_);rintro e w4 ⟨rfl,hI4,hz4⟩;have I4:=Lib.hid hI4;have B4:=Lib.hid (Bz.below B3.out hz4 B3.out.size (by omega));have K4:=Lib.hid ((hz4.block W.heap.size (by have:=I2.out.lt;omega) (by omega)).trans K3.out);clear hI4 hz4))
      go_roundw
      case rel=>exact ⟨i + 1,by go_num,by have:=HLT.out;omega,Lib.hid ⟨B4.out,K4.out,by rw [EJ.out];exact I4.out⟩⟩
      case measure=>have:=HLT.out;simp [intOf];omega
    · have l1:decide (i < l.length)=false:=decide_eq_false hlt
      have e:l.length - i=0:=by omega
      have hI:=hq.out.2.2
      rw [e,List.drop_zero] at hI
      have d0:=kb_cell hq.out.2.1 (i:=0) rfl
      have HB:=Lib.hid hq.out.1
      have II:=Lib.hid hI
      have NG:=Lib.hid (neg_c hI hI (by simpa using sm_le (Nat.le_refl _) (lvN_lt HW.out) (by have:=HL.out;omega)))
      clear hq hI e hlt
      cases g
      · go_wp2
        go_ret
        exact ⟨_,rfl,by omega,II.out,HB.out⟩
      · go_wp2_with (go_at_call 64;(with_reducible refine (NG.out).mono ?_);rintro e w2 ⟨rfl,hI2,hz2⟩;have I2:=Lib.hid hI2;have B2:=Lib.hid (Bz.below HB.out hz2 HB.out.size (by omega));clear hI2 hz2)
        go_ret
        exact ⟨_,rfl,by omega,I2.out,B2.out⟩
end Go.Proofs.YtalhpbilkhdfhaaDoor
namespace Go.Proofs.YtalhpbilkhdfhaaDoor
open Go Go.RowKit Nv
open Go.Proofs.YtalhpbilkhdfhaaDoorW.PrintWords (Kd own_move own_ne own_lt own_base own_typed)
open XBn
set_option maxRecDepth 100000
set_option linter.unusedSimpArgs false
theorem Wd.grown {w w':World} {v:Value} {n:Int} {row:Option Nat} (h:Wd w v n) (hg:w.grownBy w' row) (hr:∀ k,row=some k→∃ cs,w.heap[k]?=some (.cells cs 54 (0,0))):Wd w' v n:=by
  obtain ⟨A,c,l,rfl,hl,⟨hC,hT⟩,hN,hn⟩:=h
  have key:∀ ad:Addr,(∃ cells,w.heap[ad.block]?=some (.cells cells 96 (0,0)))→ad.block < w.heap.size∧w'.heap[ad.block]?=w.heap[ad.block]?:=fun ad ⟨cells,hc⟩=>⟨kb_lt hc,hg.block _ (kb_lt hc) (fun e=>by
    obtain ⟨cs,h2⟩:=hr _ e.symm
    rw [hc] at h2
    injection h2 with h2
    injection h2 with _ h3
    exact absurd h3 (by decide))⟩
  refine ⟨A,c,l,rfl,hl,⟨⟨hC.1,hC.2.1,fun h0=>?_⟩,fun h0=>?_⟩,hN,hn⟩
  · obtain ⟨ad,e,hc⟩:=hC.2.2 h0
    obtain ⟨ad2,cells,e2,h2⟩:=hT h0
    have e3:ad=ad2:=Option.some.inj (e.symm.trans e2)
    subst e3
    obtain ⟨_,hb⟩:=key ad ⟨cells,h2⟩
    refine ⟨ad,e,fun j p hp=>?_⟩
    obtain ⟨cs,h1,hK,hcs⟩:=hc j p hp
    refine ⟨cs,h1,hK,fun i u hu=>?_⟩
    have:w'.cell? (ad.add (j * (Kd.int .u32).sz + i))=w.cell? (ad.add (j * (Kd.int .u32).sz + i)):=World.cell?_of_block (by rw [add_block];exact hb)
    rw [this]
    exact hcs i u hu
  · obtain ⟨ad,cells,e,h2⟩:=hT h0
    exact ⟨ad,cells,e,(key ad ⟨cells,h2⟩).2.trans h2⟩
theorem IntAt.grown {w w':World} {b:Nat} {v:Int} {row:Option Nat} (h:IntAt w b v) (hg:w.grownBy w' row) (hr:∀ k,row=some k→∃ cs,w.heap[k]?=some (.cells cs 54 (0,0))):IntAt w' b v:=by
  obtain ⟨ng,sl,n,h1,h2,h3,h4⟩:=h
  refine ⟨ng,sl,n,(hg.block b h1.lt (fun e=>?_)).trans h1,h2.grown hg hr,h3,h4⟩
  obtain ⟨cs,h5⟩:=hr _ e.symm
  unfold IntB at h1
  rw [h1] at h5
  injection h5 with h5
  injection h5 with _ h6
  exact absurd h6 (by decide)
def lbs (m:Nat):List Int:=if m=0 then [] else ((m % 18446744073709551616:Nat):Int) :: lbs (m / 18446744073709551616)
termination_by m
decreasing_by exact Nat.div_lt_self (by omega) (by decide)
theorem lbs_zero:lbs 0=[]:=by rw [lbs,if_pos rfl]
theorem lbs_pos {m:Nat} (h:m ≠ 0):lbs m=((m % 18446744073709551616:Nat):Int) :: lbs (m / 18446744073709551616):=by
  conv=>lhs;rw [lbs]
  rw [if_neg h]
abbrev U6 (l:List Int):List Value:=l.map (Value.int .u64)
structure LH (W w:World) (br bo bm m R:Nat) (acc:List Int) (v:Value):Prop where
  b:Below W.heap.size W w
  r:IntAt w br R
  l:∃ u,IntAt w bo u
  k:IntAt w bm 18446744073709551615
  o:w.ownsRow W.heap.size 54 1 v acc.length (U6 acc)
  e:acc ++ lbs R=lbs m
  lt:R≤m
theorem LH.bz {W w w':World} {br bo bm m R z:Nat} {acc:List Int} {v:Value} {u:Int} (h:LH W w br bo bm m R acc v) (hz:IntAt w z u) (hb:Bz z w w') (hW:W.heap.size≤z):Below W.heap.size W w'∧w'.ownsRow W.heap.size 54 1 v acc.length (U6 acc):=by
  refine ⟨Bz.below h.b hb h.b.size hW,own_move h.o (fun k hk=>hb.block k (own_lt h.o k hk) (fun e=>?_))⟩
  obtain ⟨ng,sl,n,h1,_⟩:=hz
  exact own_ne h.o h1 (by decide) (by rw [hk,e])
theorem own_bz {w w':World} {B n z:Nat} {v:Value} {xs:List Value} {u:Int} (h:w.ownsRow B 54 1 v n xs) (hz:IntAt w z u) (hb:Bz z w w'):w'.ownsRow B 54 1 v n xs:=by
  refine own_move h (fun k hk=>hb.block k (own_lt h k hk) (fun e=>?_))
  obtain ⟨ng,sl,n,h1,_⟩:=hz
  exact own_ne h h1 (by decide) (by rw [hk,e])
theorem own_some {w:World} {B n:Nat} {v:Value} {xs:List Value} (h:w.ownsRow B 54 1 v n xs) (h0:0 < n):∃ g c,v=.slice (some ⟨g,0,none⟩) n c:=by
  obtain ⟨_,h|⟨g,cap,cur,e,_⟩⟩:=h
  · omega
  · exact ⟨g,cap,e⟩
theorem and_low (R:Nat):(R &&& 18446744073709551615)=R % 18446744073709551616:=Nat.and_two_pow_sub_one_eq_mod R 64
set_option maxHeartbeats 4000000 in
theorem limbs_c {W:World} {x:Nat} {v:Int} {k:Nat} (hx:IntAt W x v) (hs:v.natAbs < 2 ^ (64 * k)) (hk:k≤1000) (hlen:(lbs v.natAbs).length≤1000) :
    Calls Tryd.prog 67 #[pt x] W fun e w'=>∃ vv,e=.returned vv∧w'.ownsRow W.heap.size 54 1 vv (lbs v.natAbs).length (U6 (lbs v.natAbs))∧Below W.heap.size W w':=by
  have sm:=sm_pw hs (by omega)
  have AB:Hid (Calls Tryd.prog 49 #[pt W.heap.size,pt x] (W.alloc (.cells #[.bool false,.slice none 0 0] 76)) (GPost W.heap.size (v.natAbs:Int) (W.alloc (.cells #[.bool false,.slice none 0 0] 76)))):=Lib.hid (iabs_c (IntAt.zero W) (hx.alloc _) sm)
  have MK:Hid (∀ w:World,Calls Tryd.prog 63 #[pt w.heap.size,.int .u64 18446744073709551615] (w.alloc (.cells #[.bool false,.slice none 0 0] 76)) (GPost w.heap.size (18446744073709551615:Int) (w.alloc (.cells #[.bool false,.slice none 0 0] 76)))):=Lib.hid (fun w=>setU_c (IntAt.zero w) 18446744073709551615 (by decide))
  obtain ⟨m,hm⟩:∃ m,v.natAbs=m:=⟨_,rfl⟩
  rw [hm] at AB hs hlen ⊢
  have HS:=Lib.hid hs
  have HL:=Lib.hid hlen
  have KK:Hid (k≤100000):=Lib.hid (by omega)
  clear hx sm hm hs hlen
  go_enter Tryd.func67,Tryd.ntmps67
  go_upto_region 3 with (first
    | (go_at_call 49;(with_reducible refine (AB.out).mono ?_);rintro e w1 ⟨rfl,hI,hz⟩;have I1:=Lib.hid hI;have B1:=Lib.hid (Bz.below (bl_alloc (Below.refl W.heap.size W) _) hz (by simp) (Nat.le_refl _));clear hI hz))
  have IL:Hid (IntAt (w1.alloc (.cells #[.bool false,.slice none 0 0] 76)) w1.heap.size 0):=Lib.hid (IntAt.zero w1)
  have NL:Hid (W.heap.size < w1.heap.size):=Lib.hid I1.out.lt
  have I1:=Lib.hid (I1.out.alloc (.cells #[.bool false,.slice none 0 0] 76))
  have B1:=Lib.hid (bl_alloc B1.out (.cells #[.bool false,.slice none 0 0] 76))
  obtain ⟨w2,hw2⟩:∃ w,w1.alloc (.cells #[.bool false,.slice none 0 0] 76)=w:=⟨_,rfl⟩
  obtain ⟨bo,hbo⟩:∃ b,w1.heap.size=b:=⟨_,rfl⟩
  rw [hw2] at IL I1 B1
  rw [hbo] at IL NL
  simp only [hw2,hbo]
  clear hw2 hbo AB
  go_upto_region 4 with (first
    | (go_at_call 63;(with_reducible refine (MK.out _).mono ?_);rintro e w3 ⟨rfl,hI,hz⟩;have I3:=Lib.hid hI;have I1:=Lib.hid ((I1.out.alloc _).keep (IntAt.zero w2) (Nat.ne_of_lt I1.out.lt) hz);have NM:=Lib.hid IL.out.lt;have IL:=Lib.hid ((IL.out.alloc _).keep (IntAt.zero w2) (Nat.ne_of_lt IL.out.lt) hz);have B3:=Lib.hid (Bz.below (bl_alloc B1.out _) hz (Nat.le_trans B1.out.size (by simp)) B1.out.size);clear hI hz))
  obtain ⟨bm,hbm⟩:∃ b,w2.heap.size=b:=⟨_,rfl⟩
  rw [hbm] at I3 NM
  simp only [hbm]
  clear hbm MK B1
  have P0:Hid (LH W w3 W.heap.size bo bm m m [] (.slice none 0 0)):=Lib.hid ⟨B3.out,I1.out,⟨_,IL.out⟩,I3.out,World.ownsRow_nil _ _ _ _,rfl,Nat.le_refl _⟩
  clear I1 IL I3 B3
  obtain ⟨i0,hi,hzz⟩:=Option.map_eq_some_iff.1 (show (Tryd.prog.info? 54).map (fun i=>(i.zero,i.size,i.bytes))=some (some (.int .u64 0),1,8) by kernel_rfl)
  simp only [Prod.mk.injEq] at hzz
  obtain ⟨hz0,hz1,hz2⟩:=hzz
  go_loopw [3] (fun v3 wr=>∃ (A:Option Addr) (c:Nat) (acc:List Int) (R:Nat),v3=.slice A acc.length c∧Hid (LH W wr W.heap.size bo bm m R acc (.slice A acc.length c))) (fun v3 _=>(lbs m).length - (match v3 with|.slice _ n _=>n|_=>0))
  case atStart=>exact ⟨none,0,[],m,rfl,P0⟩
  case round =>
    obtain ⟨A,c,acc,R,rfl,hq⟩:=hrel
    clear P0
    have SG:=Lib.hid (isign_c hq.out.r)
    by_cases h0:R=0
    · have e:=hq.out.e
      rw [h0,lbs_zero,List.append_nil] at e
      have O:=Lib.hid hq.out.o
      have B:=Lib.hid hq.out.b
      have s0:sgnI (R:Int)=0:=by rw [h0];rfl
      rw [s0] at SG
      have E:=Lib.hid e
      clear hq h0 s0 e
      go_wp2_with (go_at_call 44;(with_reducible refine (SG.out).mono ?_);rintro e w4 ⟨rfl,rfl⟩)
      go_ret
      exact ⟨_,rfl,by rw [← E.out];exact O.out,B.out⟩
    · have s0:sgnI (R:Int)=1:=by unfold sgnI;rw [if_neg (by omega),if_pos (by omega)]
      rw [s0] at SG
      obtain ⟨u,hu⟩:=hq.out.l
      have sR:Sm (R:Int):=sm_le hq.out.lt HS.out KK.out
      have AN:=iand_c hu hq.out.r hq.out.k (Int.natCast_nonneg _) (by decide) sR (sm_pw (x:=18446744073709551615) (k:=1) (by decide) (by decide))
      rw [Int.toNat_natCast,show (18446744073709551615:Int).toNat=18446744073709551615 by rfl,and_low] at AN
      obtain ⟨L,hL⟩:∃ L,R % 18446744073709551616=L:=⟨_,rfl⟩
      rw [hL] at AN
      have Ll:L < 18446744073709551616:=by rw [← hL];exact Nat.mod_lt _ (by decide)
      have ele:lbs R=(L:Int) :: lbs (R / 18446744073709551616):=by rw [lbs_pos h0,hL]
      have hlen:acc.length + 1≤1000:=by
        have h1:=HL.out
        rw [← hq.out.e,ele] at h1
        simp at h1
        omega
      have AC:=Lib.hid AN
      have U0:=Lib.hid hu
      have HQ:=Lib.hid hq.out
      have ELE:=Lib.hid ele
      have HLN:=Lib.hid hlen
      have LL:=Lib.hid Ll
      have SR:=Lib.hid sR
      have H0:=Lib.hid h0
      have HN:Hid (∀ w:World,∀ j u,([.int .u64 (L:Int)]:List Value)[j]?=some u→(w.alloc (.cells #[.int .u64 (L:Int)] 54)).cell? ((⟨w.heap.size,0,none⟩:Addr).add j)=some u):=Lib.hid (fun w j u hu=>by
        rcases j with _|j
        · rw [show (⟨w.heap.size,0,none⟩:Addr).add 0=⟨w.heap.size,0,none⟩ by simp [Addr.add]]
          exact kb_cell (kb_new (w:=w) (o:=.cells #[.int .u64 (L:Int)] 54) (Below.refl _ _)) (by simpa using hu)
        · simp at hu)
      have H1:Hid (∀ u ∈ ([.int .u64 (L:Int)]:List Value),u.oneCell'=true):=Lib.hid (fun u hu=>by rw [List.mem_singleton.1 hu];rfl)
      have RS:Hid (∀ w,IntAt w W.heap.size (R:Int)→Calls Tryd.prog 52 #[pt W.heap.size,pt W.heap.size,.int .u64 64] w (GPost W.heap.size ((R / 18446744073709551616:Nat):Int) w)):=Lib.hid (fun w h=>by
        have:=rsh_c h h (by simpa using sR) (Int.natCast_nonneg _) 64 (by decide)
        rw [Int.toNat_natCast] at this
        exact this)
      clear hq hu sR AN hL Ll ele h0 s0 hlen
      go_wp2_with (first
        | (go_at_call 44;(with_reducible refine (SG.out).mono ?_);rintro e w4 ⟨rfl,rfl⟩)
        | (go_at_call 90;(with_reducible refine (AC.out).mono ?_);rintro e w4 ⟨rfl,hI,hz⟩;have Q1:=Lib.hid (HQ.out.bz U0.out hz (Nat.le_of_lt NL.out));have Ir:=Lib.hid (HQ.out.r.keep U0.out (Nat.ne_of_lt NL.out) hz);have Ik:=Lib.hid (HQ.out.k.keep U0.out (Nat.ne_of_gt NM.out) hz);have Il:=Lib.hid hI;clear hI hz)
        | (go_at_call 51;(with_reducible refine (u64_c Il.out).mono ?_);rintro e w5 ⟨rfl,hw⟩;obtain rfl:=hw;rw [Int.natAbs_natCast,Nat.mod_eq_of_lt LL.out])
        | (at_builtin;go_loud (refine wpList_append_own _ rfl _ _ 42 rfl W.heap.size 54 i0 (.int .u64 0) 1 8 Tryd.underlying42 hi hz0 hz1 hz2 rfl (by decide) _ acc.length (U6 acc) rfl (Q1.out.2.alloc _) ⟨w4.heap.size,0,none⟩ 1 1 [.int .u64 (L:Int)] rfl rfl (HN.out _) H1.out (by have:=HLN.out;unfold maxLen;omega) (by have:=HLN.out;omega) (by have:=Q1.out.1.size;simp;omega) ?_);intro v6 w6 hown hgrow _;have GR:=Lib.hid (fun k' hk'=>own_typed (Q1.out.2.alloc (.cells #[.int .u64 (L:Int)] 54)) k' hk');have Ir:=Lib.hid ((Ir.out.alloc _).grown hgrow GR.out);have Ik:=Lib.hid ((Ik.out.alloc _).grown hgrow GR.out);have Il:=Lib.hid ((Il.out.alloc _).grown hgrow GR.out);have B6:=Lib.hid ((bl_alloc Q1.out.1 _).grown hgrow (by have:=Q1.out.1.size;simp;omega) (fun k' hk'=>own_base Q1.out.2 k' hk'));obtain ⟨g6,c6,rfl⟩:=own_some hown (Nat.succ_pos _);have O6:=Lib.hid hown;clear hown hgrow GR Q1)
        | (go_at_call 52;(with_reducible refine (RS.out _ Ir.out).mono ?_);rintro e w7 ⟨rfl,hI,hz⟩;have Ik:=Lib.hid (Ik.out.keep Ir.out (Nat.ne_of_gt (Nat.lt_trans NL.out NM.out)) hz);have Il:=Lib.hid (Il.out.keep Ir.out (Nat.ne_of_gt NL.out) hz);have O7:=Lib.hid (own_bz O6.out Ir.out hz);have B7:=Lib.hid (Bz.below B6.out hz B6.out.size (Nat.le_refl _));have Ir:=Lib.hid hI;clear hI hz))
      go_roundw
      case rel=>exact ⟨some ⟨g6,0,none⟩,c6,acc ++ [(L:Int)],R / 18446744073709551616,by simp,Lib.hid ⟨B7.out,Ir.out,⟨_,Il.out⟩,Ik.out,by simpa using O7.out,by rw [← HQ.out.e,ELE.out,List.append_assoc];rfl,Nat.le_trans (Nat.div_le_self ..) HQ.out.lt⟩⟩
      case measure=>have:=HQ.out.e;rw [ELE.out] at this;have:=congrArg List.length this;simp at this ⊢;omega
end Go.Proofs.YtalhpbilkhdfhaaDoor
namespace Go.Proofs.YtalhpbilkhdfhaaDoor
open Go Go.RowKit Nv
open Go.Proofs.YtalhpbilkhdfhaaDoorW.PrintWords (Kd own_move own_ne own_lt own_base own_typed)
open XBn
set_option maxRecDepth 100000
set_option linter.unusedSimpArgs false
theorem own_low {w:World} {B B' n:Nat} {v:Value} {xs:List Value} (h:w.ownsRow B 54 1 v n xs) (hb:B'≤B):w.ownsRow B' 54 1 v n xs:=by
  obtain ⟨h1,h2|⟨g,cap,cur,e,h3,h4⟩⟩:=h
  · exact ⟨h1,Or.inl h2⟩
  · exact ⟨h1,Or.inr ⟨g,cap,cur,e,Nat.le_trans hb h3,h4⟩⟩
theorem own_set {w:World} {B n b:Nat} {v:Value} {xs:List Value} {cs:Array Value} {t:TypeId} (h:w.ownsRow B 54 1 v n xs) (hb:w.heap[b]?=some (.cells cs t (0,0))) (ht:54 ≠ t) (i:Nat) (u:Value):(w.setCell ⟨b,i,none⟩ u).ownsRow B 54 1 v n xs :=
  own_move h (fun k hk=>rw_far (fun e=>own_ne h hb ht (by rw [hk,e])) i u)
theorem own_sl6 {w:World} {B n:Nat} {v:Value} {xs:List Value} (h:w.ownsRow B 54 1 v n xs):∃ A c,v=.slice A n c:=by
  obtain ⟨_,⟨h,h0⟩|⟨g,cap,cur,e,_⟩⟩:=h
  · exact ⟨none,0,by rw [h,h0]⟩
  · exact ⟨_,_,e⟩
theorem lbs_one {m:Nat} (h:m < 18446744073709551616):(lbs m).length≤1000:=by
  by_cases h0:m=0
  · rw [h0,lbs_zero];simp
  · rw [lbs_pos h0,Nat.div_eq_of_lt h,lbs_zero];simp
theorem bl_one {m:Nat} (h:m < 18446744073709551616):bl m≤64:=bl_le_of (by simpa using h)
abbrev nilI:Obj:=.cells #[.bool false,.slice none 0 0] 76
abbrev nilD:Obj:=.cells #[.bool false,.slice none 0 0,.int .i64 0] 44
set_option maxHeartbeats 4000000 in
theorem made_c {W:World} {x:Nat} {v exp:Int} (hx:IntAt W x v) (h0:v ≠ 0) (hs:v.natAbs < 18446744073709551616) (he1:-2000≤exp) (he2:exp≤2000) :
    Calls Tryd.prog 45 #[pt x,.int .i64 exp] W fun e w'=>∃ (n:Nat) (vv:Value),tz v.natAbs n∧e=.returned (.tuple #[.agg #[.bool (decide (v < 0)),vv,.int .i64 (exp + n)],.int .i64 0])∧w'.ownsRow W.heap.size 54 1 vv (lbs (v.natAbs / 2 ^ n)).length (U6 (lbs (v.natAbs / 2 ^ n)))∧Below W.heap.size W w':=by
  have hs2:v.natAbs < 2 ^ (64 * 1):=by simpa using hs
  have sm:Sm (v.natAbs:Int):=sm_pw hs2 (by decide)
  have bl64:=bl_one hs
  have X0:=Lib.hid (hx.alloc nilD)
  have B0:=Lib.hid (bl_alloc (Below.refl W.heap.size W) nilD)
  have K0:=Lib.hid (kb_new (w:=W) (o:=nilD) (Below.refl _ _))
  have SG:Hid (∀ w,IntAt w x v→Calls Tryd.prog 44 #[pt x] w fun e w'=>e=.returned (.int .i64 (sgnI v))∧w=w'):=Lib.hid (fun w h=>isign_c h)
  have TZ:Hid (∀ w,IntAt w x v→Calls Tryd.prog 65 #[pt x] w fun e w'=>∃ n:Nat,e=.returned (.int .u64 n)∧tz v.natAbs n∧n < bl v.natAbs∧Below w.heap.size w w'):=Lib.hid (fun w h=>tzb_c h sm h0 (by omega))
  have BLN:Hid (∀ w,IntAt w x v→Calls Tryd.prog 66 #[pt x] w fun e w'=>e=.returned (.int .i64 (bl v.natAbs))∧Below w.heap.size w w'):=Lib.hid (fun w h=>bitlen_c h sm)
  have s0:(sgnI v == 0)=false:=by unfold sgnI;rw [beq_eq_false_iff_ne];(repeat' split) <;> omega
  have s1:decide (sgnI v < 0)=decide (v < 0):=by unfold sgnI;by_cases h:v < 0 <;> simp [h] <;> split <;> simp
  have AB:Hid (∀ w z u,IntAt w z u→IntAt w x v→Calls Tryd.prog 49 #[pt z,pt x] w (GPost z (v.natAbs:Int) w)):=Lib.hid (fun w z u h1 h2=>iabs_c h1 h2 sm)
  obtain ⟨m,hm⟩:∃ m,v.natAbs=m:=⟨_,rfl⟩
  obtain ⟨ng,hng⟩:∃ b,decide (v < 0)=b:=⟨_,rfl⟩
  rw [hm] at hs hs2 sm bl64 TZ BLN AB ⊢
  rw [hng] at s1 ⊢
  obtain ⟨S,hS⟩:∃ S,sgnI v=S:=⟨_,rfl⟩
  rw [hS] at s0 s1 SG
  have RS:Hid (∀ w z y u n,n≤64→IntAt w z u→IntAt w y (m:Int)→Calls Tryd.prog 52 #[pt z,pt y,.int .u64 (n:Nat)] w (GPost z ((m / 2 ^ n:Nat):Int) w)):=Lib.hid (fun w z y u n hn h1 h2=>by
    have:=rsh_c h1 h2 (by simpa using sm) (Int.natCast_nonneg _) n (by omega)
    rw [Int.toNat_natCast] at this
    exact this)
  have LM:Hid (∀ (w:World) (z M:Nat),M < 18446744073709551616→IntAt w z (M:Int)→Calls Tryd.prog 67 #[pt z] w fun e w'=>∃ vv,e=.returned vv∧w'.ownsRow w.heap.size 54 1 vv (lbs M).length (U6 (lbs M))∧Below w.heap.size w w'):=Lib.hid (fun w z M hl h=>limbs_c (v:=(M:Int)) (k:=1) h (by simpa using hl) (by decide) (lbs_one hl))
  have DL:Hid (∀ n,m / 2 ^ n < 18446744073709551616):=Lib.hid (fun n=>Nat.lt_of_le_of_lt (Nat.div_le_self ..) hs)
  have BL:=Lib.hid bl64
  have k1:decide ((65536:Int) < exp)=false:=decide_eq_false (by omega)
  have HE:=Lib.hid (And.intro he1 he2)
  clear hx h0 hs hs2 sm bl64 hm hng hS he1 he2
  go_enter Tryd.func45,Tryd.ntmps45
  go_upto_region 4 with (first
    | (go_at_call 44;(with_reducible refine (SG.out _ X0.out).mono ?_);rintro e w4 ⟨rfl,rfl⟩)
    | (go_at_call 65;(with_reducible refine (TZ.out _ X0.out).mono ?_);rintro e w1 ⟨n,rfl,hz,hn,hb⟩;have T:=Lib.hid hz;have NB:=Lib.hid hn;have X1:=Lib.hid (X0.out.below hb);have B1:=Lib.hid (bl_then B0.out hb);have K1:=Lib.hid (kb_keep hb K0.out);clear hz hn hb))
  have hn64:n≤64:=by have:=NB.out;have:=BL.out;omega
  have hb64:=BL.out
  have he:=HE.out
  have wn:wrap64 (n:Int)=(n:Int):=by unfold wrap64;omega
  have wn2:IntKind.u64.wrap (n:Int)=(n:Int):=by clear wn;rw [IntKind.wrap_u64];omega
  have wn3:wrap64 (-65536 - (n:Int))=-65536 - (n:Int):=by clear wn wn2;unfold wrap64;omega
  have wn4:wrap64 (exp + (n:Int))=exp + (n:Int):=by clear wn wn2 wn3;unfold wrap64;omega
  have wn5:wrap64 ((bl m:Int) - (n:Int))=(bl m:Int) - (n:Int):=by clear wn wn2 wn3 wn4;unfold wrap64;omega
  have k2:decide (exp < -65536 - (n:Int))=false:=by clear wn wn2 wn3 wn4 wn5;exact decide_eq_false (by omega)
  have k3:decide ((65536:Int) < exp + (n:Int))=false:=by clear wn wn2 wn3 wn4 wn5;exact decide_eq_false (by omega)
  have k4:decide ((16384:Int) < (bl m:Int) - (n:Int))=false:=by clear wn wn2 wn3 wn4 wn5;exact decide_eq_false (by omega)
  have HN:=Lib.hid hn64
  clear hn64 hb64 he
  simp only [wn]
  go_upto_region 9 with (first
    | (go_at_call 66;(with_reducible refine (BLN.out _ X1.out).mono ?_);rintro e w2 ⟨rfl,hb⟩;have X2:=Lib.hid (X1.out.below hb);have B2:=Lib.hid (bl_then B1.out hb);have K2:=Lib.hid (kb_keep hb K1.out);clear hb))
  have Z1:Hid (IntAt ((w2.alloc nilI).alloc nilI) w2.heap.size 0):=Lib.hid ((IntAt.zero w2).alloc _)
  have Z2:Hid (IntAt ((w2.alloc nilI).alloc nilI) (w2.heap.size + 1) 0):=Lib.hid (by have:=IntAt.zero (w2.alloc nilI);simpa using this)
  have X3:=Lib.hid ((X2.out.alloc nilI).alloc nilI)
  have B3:=Lib.hid (bl_alloc (bl_alloc B2.out nilI) nilI)
  have K3:=Lib.hid (kb_alloc (o':=nilI) (kb_alloc (o':=nilI) K2.out))
  have NW:=Lib.hid (kb_lt K2.out)
  have S2:=Lib.hid B2.out.size
  go_wp2_with (first
    | (go_at_call 44;(with_reducible refine (SG.out _ X2.out).mono ?_);rintro e w4 ⟨rfl,rfl⟩)
    | (go_at_call 49;(with_reducible refine (AB.out _ _ _ Z2.out X3.out).mono ?_);rintro e w4 ⟨rfl,hI,hz⟩;have Ia:=Lib.hid hI;have Z1:=Lib.hid (Z1.out.keep Z2.out (Nat.ne_of_lt (Nat.lt_succ_self _)) hz);have B4:=Lib.hid (Bz.below B3.out hz B3.out.size (by have:=S2.out;omega));have K4:=Lib.hid ((hz.block W.heap.size (kb_lt K3.out) (by have:=NW.out;omega)).trans K3.out);clear hI hz)
    | (go_at_call 52;(with_reducible refine (RS.out _ _ _ _ _ HN.out Z1.out Ia.out).mono ?_);rintro e w5 ⟨rfl,hI,hz⟩;have Ir:=Lib.hid hI;have B5:=Lib.hid (Bz.below B4.out hz B4.out.size S2.out);have K5:=Lib.hid ((hz.block W.heap.size (kb_lt K4.out) (by have:=NW.out;omega)).trans K4.out);clear hI hz)
    | (go_at_call 67;(with_reducible refine (LM.out _ _ _ (DL.out n) Ir.out).mono ?_);rintro e w6 ⟨vv,rfl,hO,hb⟩;obtain ⟨A6,c6,rfl⟩:=own_sl6 hO;have O6:=Lib.hid (own_low hO B5.out.size);have B6:=Lib.hid (bl_then B5.out hb);have K6:=Lib.hid (kb_keep hb K5.out);have d0:=kb_cell K6.out (i:=0) rfl;have d1:=kb_cell K6.out (i:=1) rfl;have d2:=kb_cell K6.out (i:=2) rfl;have f0:=kb_frozen K6.out 0;have f1:=kb_frozen K6.out 1;have f2:=kb_frozen K6.out 2;clear hO hb))
  have y0:=rw_setc K6.out 0 (.bool ng)
  have y1:=rw_setc y0 1 (.slice A6 (lbs (m / 2 ^ n)).length c6)
  have y2:=rw_setc y1 2 (.int .i64 (exp + (n:Int)))
  have z0:=kb_cell y2 (i:=0) rfl
  have z1:=kb_cell y2 (i:=1) rfl
  have z2:=kb_cell y2 (i:=2) rfl
  refine bodyPost_ret (v:=.tuple #[.agg #[.bool ng,.slice A6 (lbs (m / 2 ^ n)).length c6,.int .i64 (exp + (n:Int))],.int .i64 0]) (by simp [results,Tryd.results45,go_sem,z0,z1,z2]) rfl ?_
  exact ⟨n,_,T.out,rfl,own_set (own_set (own_set O6.out K6.out (by decide) 0 _) y0 (by decide) 1 _) y1 (by decide) 2 _,bl_set (bl_set (bl_set B6.out _ (Nat.le_refl _)) _ (Nat.le_refl _)) _ (Nat.le_refl _)⟩
end Go.Proofs.YtalhpbilkhdfhaaDoor
namespace Go.Proofs.YtalhpbilkhdfhaaDoor
open Go Go.RowKit Nv
open Go.Proofs.YtalhpbilkhdfhaaDoorW.PrintWords (Kd own_move own_ne own_lt own_base own_typed)
open XBn
set_option maxRecDepth 100000
set_option linter.unusedSimpArgs false
theorem lbs_len:∀ {k m:Nat},m < 2 ^ (64 * k)→(lbs m).length≤k
  | 0,m,h=>by
    have:m=0:=by simpa using h
    rw [this,lbs_zero];simp
  | k + 1,m,h=>by
    by_cases h0:m=0
    · rw [h0,lbs_zero];simp
    · rw [lbs_pos h0,List.length_cons]
      have:m / 18446744073709551616 < 2 ^ (64 * k):=by
        rw [Nat.div_lt_iff_lt_mul (by decide)]
        have e:2 ^ (64 * (k + 1))=2 ^ (64 * k) * 18446744073709551616:=by rw [Nat.mul_succ,Nat.pow_add]
        omega
      have:=lbs_len this
      omega
set_option maxHeartbeats 4000000 in
theorem made_g {W:World} {x k:Nat} {v exp:Int} (hx:IntAt W x v) (h0:v ≠ 0) (hs:v.natAbs < 2 ^ (64 * k)) (hk:k≤256) (he1:-30000≤exp) (he2:exp≤30000) :
    Calls Tryd.prog 45 #[pt x,.int .i64 exp] W fun e w'=>∃ (n:Nat) (vv:Value),tz v.natAbs n∧e=.returned (.tuple #[.agg #[.bool (decide (v < 0)),vv,.int .i64 (exp + n)],.int .i64 0])∧w'.ownsRow W.heap.size 54 1 vv (lbs (v.natAbs / 2 ^ n)).length (U6 (lbs (v.natAbs / 2 ^ n)))∧Below W.heap.size W w':=by
  have sm:Sm (v.natAbs:Int):=sm_pw hs (by omega)
  have bl64:bl v.natAbs≤16384:=Nat.le_trans (bl_le_of hs) (by omega)
  have X0:=Lib.hid (hx.alloc nilD)
  have B0:=Lib.hid (bl_alloc (Below.refl W.heap.size W) nilD)
  have K0:=Lib.hid (kb_new (w:=W) (o:=nilD) (Below.refl _ _))
  have SG:Hid (∀ w,IntAt w x v→Calls Tryd.prog 44 #[pt x] w fun e w'=>e=.returned (.int .i64 (sgnI v))∧w=w'):=Lib.hid (fun w h=>isign_c h)
  have TZ:Hid (∀ w,IntAt w x v→Calls Tryd.prog 65 #[pt x] w fun e w'=>∃ n:Nat,e=.returned (.int .u64 n)∧tz v.natAbs n∧n < bl v.natAbs∧Below w.heap.size w w'):=Lib.hid (fun w h=>tzb_c h sm h0 (by omega))
  have BLN:Hid (∀ w,IntAt w x v→Calls Tryd.prog 66 #[pt x] w fun e w'=>e=.returned (.int .i64 (bl v.natAbs))∧Below w.heap.size w w'):=Lib.hid (fun w h=>bitlen_c h sm)
  have s0:(sgnI v == 0)=false:=by unfold sgnI;rw [beq_eq_false_iff_ne];(repeat' split) <;> omega
  have s1:decide (sgnI v < 0)=decide (v < 0):=by unfold sgnI;by_cases h:v < 0 <;> simp [h] <;> split <;> simp
  have AB:Hid (∀ w z u,IntAt w z u→IntAt w x v→Calls Tryd.prog 49 #[pt z,pt x] w (GPost z (v.natAbs:Int) w)):=Lib.hid (fun w z u h1 h2=>iabs_c h1 h2 sm)
  obtain ⟨m,hm⟩:∃ m,v.natAbs=m:=⟨_,rfl⟩
  obtain ⟨ng,hng⟩:∃ b,decide (v < 0)=b:=⟨_,rfl⟩
  rw [hm] at hs sm bl64 TZ BLN AB ⊢
  rw [hng] at s1 ⊢
  obtain ⟨S,hS⟩:∃ S,sgnI v=S:=⟨_,rfl⟩
  rw [hS] at s0 s1 SG
  have RS:Hid (∀ w z y u n,n≤16384→IntAt w z u→IntAt w y (m:Int)→Calls Tryd.prog 52 #[pt z,pt y,.int .u64 (n:Nat)] w (GPost z ((m / 2 ^ n:Nat):Int) w)):=Lib.hid (fun w z y u n hn h1 h2=>by
    have:=rsh_c h1 h2 (by simpa using sm) (Int.natCast_nonneg _) n (by omega)
    rw [Int.toNat_natCast] at this
    exact this)
  have LM:Hid (∀ (w:World) (z M:Nat),M < 2 ^ (64 * k)→IntAt w z (M:Int)→Calls Tryd.prog 67 #[pt z] w fun e w'=>∃ vv,e=.returned vv∧w'.ownsRow w.heap.size 54 1 vv (lbs M).length (U6 (lbs M))∧Below w.heap.size w w'):=Lib.hid (fun w z M hl h=>limbs_c (v:=(M:Int)) (k:=k) h (by simpa using hl) (by omega) (Nat.le_trans (lbs_len hl) (by omega)))
  have DL:Hid (∀ n,m / 2 ^ n < 2 ^ (64 * k)):=Lib.hid (fun n=>Nat.lt_of_le_of_lt (Nat.div_le_self ..) hs)
  have BL:=Lib.hid bl64
  have k1:decide ((65536:Int) < exp)=false:=decide_eq_false (by omega)
  have HE:=Lib.hid (And.intro he1 he2)
  clear hx h0 hs sm bl64 hm hng hS he1 he2 hk
  go_enter Tryd.func45,Tryd.ntmps45
  go_upto_region 4 with (first
    | (go_at_call 44;(with_reducible refine (SG.out _ X0.out).mono ?_);rintro e w4 ⟨rfl,rfl⟩)
    | (go_at_call 65;(with_reducible refine (TZ.out _ X0.out).mono ?_);rintro e w1 ⟨n,rfl,hz,hn,hb⟩;have T:=Lib.hid hz;have NB:=Lib.hid hn;have X1:=Lib.hid (X0.out.below hb);have B1:=Lib.hid (bl_then B0.out hb);have K1:=Lib.hid (kb_keep hb K0.out);clear hz hn hb))
  have hn64:n≤16384:=by have:=NB.out;have:=BL.out;omega
  have hb64:=BL.out
  have he:=HE.out
  have wn:wrap64 (n:Int)=(n:Int):=by unfold wrap64;omega
  have wn2:IntKind.u64.wrap (n:Int)=(n:Int):=by clear wn;rw [IntKind.wrap_u64];omega
  have wn3:wrap64 (-65536 - (n:Int))=-65536 - (n:Int):=by clear wn wn2;unfold wrap64;omega
  have wn4:wrap64 (exp + (n:Int))=exp + (n:Int):=by clear wn wn2 wn3;unfold wrap64;omega
  have wn5:wrap64 ((bl m:Int) - (n:Int))=(bl m:Int) - (n:Int):=by clear wn wn2 wn3 wn4;unfold wrap64;omega
  have k2:decide (exp < -65536 - (n:Int))=false:=by clear wn wn2 wn3 wn4 wn5;exact decide_eq_false (by omega)
  have k3:decide ((65536:Int) < exp + (n:Int))=false:=by clear wn wn2 wn3 wn4 wn5;exact decide_eq_false (by omega)
  have k4:decide ((16384:Int) < (bl m:Int) - (n:Int))=false:=by clear wn wn2 wn3 wn4 wn5;exact decide_eq_false (by omega)
  have HN:=Lib.hid hn64
  clear hn64 hb64 he
  simp only [wn]
  go_upto_region 9 with (first
    | (go_at_call 66;(with_reducible refine (BLN.out _ X1.out).mono ?_);rintro e w2 ⟨rfl,hb⟩;have X2:=Lib.hid (X1.out.below hb);have B2:=Lib.hid (bl_then B1.out hb);have K2:=Lib.hid (kb_keep hb K1.out);clear hb))
  have Z1:Hid (IntAt ((w2.alloc nilI).alloc nilI) w2.heap.size 0):=Lib.hid ((IntAt.zero w2).alloc _)
  have Z2:Hid (IntAt ((w2.alloc nilI).alloc nilI) (w2.heap.size + 1) 0):=Lib.hid (by have:=IntAt.zero (w2.alloc nilI);simpa using this)
  have X3:=Lib.hid ((X2.out.alloc nilI).alloc nilI)
  have B3:=Lib.hid (bl_alloc (bl_alloc B2.out nilI) nilI)
  have K3:=Lib.hid (kb_alloc (o':=nilI) (kb_alloc (o':=nilI) K2.out))
  have NW:=Lib.hid (kb_lt K2.out)
  have S2:=Lib.hid B2.out.size
  go_wp2_with (first
    | (go_at_call 44;(with_reducible refine (SG.out _ X2.out).mono ?_);rintro e w4 ⟨rfl,rfl⟩)
    | (go_at_call 49;(with_reducible refine (AB.out _ _ _ Z2.out X3.out).mono ?_);rintro e w4 ⟨rfl,hI,hz⟩;have Ia:=Lib.hid hI;have Z1:=Lib.hid (Z1.out.keep Z2.out (Nat.ne_of_lt (Nat.lt_succ_self _)) hz);have B4:=Lib.hid (Bz.below B3.out hz B3.out.size (by have:=S2.out;omega));have K4:=Lib.hid ((hz.block W.heap.size (kb_lt K3.out) (by have:=NW.out;omega)).trans K3.out);clear hI hz)
    | (go_at_call 52;(with_reducible refine (RS.out _ _ _ _ _ HN.out Z1.out Ia.out).mono ?_);rintro e w5 ⟨rfl,hI,hz⟩;have Ir:=Lib.hid hI;have B5:=Lib.hid (Bz.below B4.out hz B4.out.size S2.out);have K5:=Lib.hid ((hz.block W.heap.size (kb_lt K4.out) (by have:=NW.out;omega)).trans K4.out);clear hI hz)
    | (go_at_call 67;(with_reducible refine (LM.out _ _ _ (DL.out n) Ir.out).mono ?_);rintro e w6 ⟨vv,rfl,hO,hb⟩;obtain ⟨A6,c6,rfl⟩:=own_sl6 hO;have O6:=Lib.hid (own_low hO B5.out.size);have B6:=Lib.hid (bl_then B5.out hb);have K6:=Lib.hid (kb_keep hb K5.out);have d0:=kb_cell K6.out (i:=0) rfl;have d1:=kb_cell K6.out (i:=1) rfl;have d2:=kb_cell K6.out (i:=2) rfl;have f0:=kb_frozen K6.out 0;have f1:=kb_frozen K6.out 1;have f2:=kb_frozen K6.out 2;clear hO hb))
  have y0:=rw_setc K6.out 0 (.bool ng)
  have y1:=rw_setc y0 1 (.slice A6 (lbs (m / 2 ^ n)).length c6)
  have y2:=rw_setc y1 2 (.int .i64 (exp + (n:Int)))
  have z0:=kb_cell y2 (i:=0) rfl
  have z1:=kb_cell y2 (i:=1) rfl
  have z2:=kb_cell y2 (i:=2) rfl
  refine bodyPost_ret (v:=.tuple #[.agg #[.bool ng,.slice A6 (lbs (m / 2 ^ n)).length c6,.int .i64 (exp + (n:Int))],.int .i64 0]) (by simp [results,Tryd.results45,go_sem,z0,z1,z2]) rfl ?_
  exact ⟨n,_,T.out,rfl,own_set (own_set (own_set O6.out K6.out (by decide) 0 _) y0 (by decide) 1 _) y1 (by decide) 2 _,bl_set (bl_set (bl_set B6.out _ (Nat.le_refl _)) _ (Nat.le_refl _)) _ (Nat.le_refl _)⟩
set_option maxHeartbeats 1000000 in
theorem made_z {W:World} {x:Nat} {exp:Int} (hx:IntAt W x 0) :
    Calls Tryd.prog 45 #[pt x,.int .i64 exp] W fun e w'=>e=.returned (.tuple #[.agg #[.bool false,.slice none 0 0,.int .i64 0],.int .i64 0])∧Below W.heap.size W w':=by
  have X0:=Lib.hid (hx.alloc nilD)
  have B0:=Lib.hid (bl_alloc (Below.refl W.heap.size W) nilD)
  have K0:=Lib.hid (kb_new (w:=W) (o:=nilD) (Below.refl _ _))
  have SG:Hid (∀ w,IntAt w x 0→Calls Tryd.prog 44 #[pt x] w fun e w'=>e=.returned (.int .i64 0)∧w=w'):=Lib.hid (fun w h=>isign_c h)
  have d0:=kb_cell K0.out (i:=0) rfl
  have d1:=kb_cell K0.out (i:=1) rfl
  have d2:=kb_cell K0.out (i:=2) rfl
  have f0:=kb_frozen K0.out 0
  have f1:=kb_frozen K0.out 1
  have f2:=kb_frozen K0.out 2
  clear hx
  go_enter Tryd.func45,Tryd.ntmps45
  go_wp2_with (go_at_call 44;(with_reducible refine (SG.out _ X0.out).mono ?_);rintro e w4 ⟨rfl,rfl⟩)
  refine bodyPost_ret (v:=.tuple #[.agg #[.bool false,.slice none 0 0,.int .i64 0],.int .i64 0]) (by simp [results,Tryd.results45,go_sem,d0,d1,d2]) rfl ?_
  exact ⟨rfl,B0.out⟩
end Go.Proofs.YtalhpbilkhdfhaaDoor
namespace Go.Proofs.YtalhpbilkhdfhaaDoor
open Go Go.RowKit Nv
open Go.Proofs.YtalhpbilkhdfhaaDoorW.PrintWords (Kd own_move own_ne own_lt own_base own_typed)
open XBn
set_option maxRecDepth 100000
set_option linter.unusedSimpArgs false
theorem tz_odd {m n:Nat} (h:tz m n) (ho:m % 2=1):n=0:=by
  rcases Nat.eq_zero_or_pos n with h0|h0
  · exact h0
  · exfalso
    obtain ⟨h1,_⟩:=h
    obtain ⟨k,rfl⟩:∃ k,n=k + 1:=⟨n - 1,by omega⟩
    rw [Nat.pow_succ,Nat.mul_comm (2 ^ k),Nat.mul_assoc] at h1
    generalize 2 ^ k * (m / (2 * 2 ^ k))=q at h1
    omega
set_option maxHeartbeats 4000000 in
theorem dint_odd {W:World} (v:Int) (h0:v % 2=1) (h1:0 < v) (h2:v < 9223372036854775807) :
    Calls Tryd.prog 58 #[.int .i64 v] W fun e w'=>∃ A c,e=.returned (.agg #[.bool false,.slice A 1 c,.int .i64 0])∧w'.ownsRow W.heap.size 54 1 (.slice A 1 c) 1 [.int .u64 v]∧Below W.heap.size W w':=by
  have NI:Hid (∀ w,Calls Tryd.prog 55 #[.int .i64 v] w (NPost v w)):=Lib.hid (fun w=>newInt_c v (by omega) (by omega) w)
  have MD:Hid (∀ w x,IntAt w x v→Calls Tryd.prog 45 #[pt x,.int .i64 0] w fun e w'=>∃ A c,e=.returned (.tuple #[.agg #[.bool false,.slice A 1 c,.int .i64 0],.int .i64 0])∧w'.ownsRow w.heap.size 54 1 (.slice A 1 c) 1 [.int .u64 v]∧Below w.heap.size w w'):=Lib.hid (fun w x hx=>by
    refine (made_c (exp:=0) hx (by omega) (by omega) (by decide) (by decide)).mono ?_
    rintro e w' ⟨n,vv,ht,rfl,ho,hb⟩
    have hn:n=0:=tz_odd ht (by omega)
    subst hn
    have e1:lbs (v.natAbs / 2 ^ 0)=[v]:=by
      rw [Nat.pow_zero,Nat.div_one,lbs_pos (by omega),Nat.div_eq_of_lt (by omega),lbs_zero,Nat.mod_eq_of_lt (by omega)]
      congr 1
      omega
    rw [e1] at ho
    obtain ⟨A,c,rfl⟩:=own_sl6 ho
    refine ⟨A,c,?_,ho,hb⟩
    have e2:decide (v < 0)=false:=decide_eq_false (by omega)
    rw [e2]
    rfl)
  have B0:=Lib.hid (bl_alloc (Below.refl W.heap.size W) nilD)
  have K0:=Lib.hid (kb_new (w:=W) (o:=nilD) (Below.refl _ _))
  clear h0 h1 h2
  go_enter Tryd.func58,Tryd.ntmps58
  go_upto_region 2 with (first
    | (go_at_call 55;(with_reducible refine (NI.out _).mono ?_);rintro e w1 ⟨b,rfl,_,hI,hb⟩;have I1:=Lib.hid hI;have B1:=Lib.hid (bl_then B0.out hb);have K1:=Lib.hid (kb_keep hb K0.out);clear hI hb)
    | (go_at_call 45;(with_reducible refine (MD.out _ _ I1.out).mono ?_);rintro e w2 ⟨A,c,rfl,hO,hb⟩;have O2:=Lib.hid (own_low hO B1.out.size);have B2:=Lib.hid (bl_then B1.out hb);have K2:=Lib.hid (kb_keep hb K1.out);clear hO hb))
  have O3:=Lib.hid (O2.out.alloc (.cells #[.bool false,.slice A 1 c,.int .i64 0] 44))
  have B3:=Lib.hid (bl_alloc B2.out (.cells #[.bool false,.slice A 1 c,.int .i64 0] 44))
  have K3:=Lib.hid (kb_alloc (o':=.cells #[.bool false,.slice A 1 c,.int .i64 0] 44) K2.out)
  have N3:=Lib.hid (kb_new (w:=w2) (o:=.cells #[.bool false,.slice A 1 c,.int .i64 0] 44) (Below.refl _ _))
  obtain ⟨w3,hw3⟩:∃ w,w2.alloc (.cells #[.bool false,.slice A 1 c,.int .i64 0] 44)=w:=⟨_,rfl⟩
  obtain ⟨b3,hb3⟩:∃ b,w2.heap.size=b:=⟨_,rfl⟩
  rw [hw3] at O3 B3 K3 N3
  rw [hb3] at N3
  simp only [hw3,hb3]
  clear hw3 hb3 NI MD
  have a0:=kb_cell N3.out (i:=0) rfl
  have a1:=kb_cell N3.out (i:=1) rfl
  have a2:=kb_cell N3.out (i:=2) rfl
  have d0:=kb_cell K3.out (i:=0) rfl
  have d1:=kb_cell K3.out (i:=1) rfl
  have d2:=kb_cell K3.out (i:=2) rfl
  have f0:=kb_frozen K3.out 0
  have f1:=kb_frozen K3.out 1
  have f2:=kb_frozen K3.out 2
  go_wp2
  have y0:=rw_setc K3.out 0 (.bool false)
  have y1:=rw_setc y0 1 (.slice A 1 c)
  have y2:=rw_setc y1 2 (.int .i64 0)
  have z0:=kb_cell y2 (i:=0) rfl
  have z1:=kb_cell y2 (i:=1) rfl
  have z2:=kb_cell y2 (i:=2) rfl
  refine bodyPost_ret (v:=.agg #[.bool false,.slice A 1 c,.int .i64 0]) (by simp [results,Tryd.results58,go_sem,z0,z1,z2]) rfl ?_
  exact ⟨A,c,rfl,own_set (own_set (own_set O3.out K3.out (by decide) 0 _) y0 (by decide) 1 _) y1 (by decide) 2 _,bl_set (bl_set (bl_set B3.out _ (Nat.le_refl _)) _ (Nat.le_refl _)) _ (Nat.le_refl _)⟩
end Go.Proofs.YtalhpbilkhdfhaaDoor
namespace Go.Proofs.YtalhpbilkhdfhaaDoor
open Go Go.RowKit Nv
open XBn
set_option maxRecDepth 100000
set_option linter.unusedSimpArgs false
theorem dtop_one {W:World} (g:Bool) (ad:Addr) (c p:Nat) (x b:Int) (hp:W.cell? ad=some (.int .u64 (p:Int))) (hb0:0≤b) (hb1:b≤64) (hx:-2000≤x) (hx2:x≤2000) (hL:∀ w,Calls Tryd.prog 72 #[.int .u64 (p:Int)] w fun e w'=>e=.returned (.int .i64 b)∧w'=w) :
    Calls Tryd.prog 50 #[.agg #[.bool g,.slice (some ad) 1 c,.int .i64 x]] W fun e w'=>e=.returned (.int .i64 (x + b))∧Below W.heap.size W w':=by
  have B0:=Lib.hid (bl_alloc (Below.refl W.heap.size W) (.cells #[.bool g,.slice (some ad) 1 c,.int .i64 x] 44))
  have k0:=kb_new (w:=W) (o:=.cells #[.bool g,.slice (some ad) 1 c,.int .i64 x] 44) (Below.refl _ _)
  have d1:=kb_cell k0 (i:=1) rfl
  have d2:=kb_cell k0 (i:=2) rfl
  have cp:=kb_cX B0.out hp
  have w1:IntKind.i64.wrap (x + 0)=x:=by rw [IntKind.wrap_i64];omega
  have w2:IntKind.i64.wrap (x + b)=x + b:=by rw [IntKind.wrap_i64];omega
  have w3:wrap64 (x + b)=x + b:=by clear w1 w2;unfold wrap64;omega
  have w4:wrap64 x=x:=by clear w1 w2 w3;unfold wrap64;omega
  have LC:=Lib.hid hL
  clear hb0 hb1 hx hx2 hL hp k0
  go_enter Tryd.func50,Tryd.ntmps50
  go_upto_region 2 with (fail)
  go_quiet ((go_at_call 72;exact Calls.quiet_of_same (LC.out _)))
  go_wp2
  go_ret
  exact ⟨ret_int (by simp [w1,w2,w3,w4]),by repeat' (first|(with_reducible exact Below.refl _ _)|(with_reducible refine bl_alloc ?_ _)|(with_reducible refine bl_drewN ?_ _)|(with_reducible refine bl_drew ?_)|(with_reducible refine bl_set ?_ _ (by simp)))⟩
end Go.Proofs.YtalhpbilkhdfhaaDoor
