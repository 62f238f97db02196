/- The program's tables,by program. -/
import Derived.Test.YtocmlionnalaaaaGreatDoorTw
import Derived.Test.YtocmlionnalaaaaGreatDoorArena
import Derived.Test.YtocmlionnalaaaaGreatDoorProg
namespace Go.Proofs.YtocmlionnalaaaaGreatDoor
open Go
def Ha.enc (x : Ha) : List Value:=[iV x.Num,iV x.Den]
theorem Ha.enc_ok : Enc 2 Ha.enc:=⟨fun _=>rfl,fun _ u h=>by simp [Ha.enc] at h; rcases h with rfl | rfl <;> rfl⟩
def Dj.enc (x : Dj) : List Value:=[sV x.Key,iV x.Points.Num,iV x.Points.Den]
theorem Dj.enc_ok : Enc 3 Dj.enc:=⟨fun _=>rfl,fun _ u h=>by simp [Dj.enc] at h; rcases h with rfl | rfl | rfl <;> rfl⟩
def An.enc (x : An) : List Value:=[sV x.Race,sV x.Who,sV x.Club,iV x.Rank,bV x.Relay]
theorem An.enc_ok : Enc 5 An.enc:=⟨fun _=>rfl,fun _ u h=>by simp [An.enc] at h; rcases h with rfl | rfl | rfl | rfl | rfl <;> rfl⟩
def Cv.enc (x : Cv) : List Value:=[sV x.race_,sV x.who_]
theorem Cv.enc_ok : Enc 2 Cv.enc:=⟨fun _=>rfl,fun _ u h=>by simp [Cv.enc] at h; rcases h with rfl | rfl <;> rfl⟩
def Dy.enc (x : Dy) : List Go.Value:=[sV x.Name,sV x.Value]
theorem Dy.enc_ok : Enc 2 Dy.enc:=⟨fun _=>rfl,fun _ u h=>by simp [Dy.enc] at h; rcases h with rfl | rfl <;> rfl⟩
def Cj.enc (x : Cj) : List Value:=[iV x.a0_,iV x.a1_,iV x.a2_]
theorem Cj.enc_ok : Enc 3 Cj.enc:=⟨fun _=>rfl,fun _ u h=>by simp [Cj.enc] at h; rcases h with rfl | rfl | rfl <;> rfl⟩
def Ci.enc (x : Ci) : List Value:=[sV x.club_,iV x.many_.a0_,iV x.many_.a1_,iV x.many_.a2_]
theorem Ci.enc_ok : Enc 4 Ci.enc:=⟨fun _=>rfl,fun _ u h=>by simp [Ci.enc] at h; rcases h with rfl | rfl | rfl | rfl <;> rfl⟩
def Di.enc (x : Di) : List Value:=[bV x.is_,iV x.e_]
theorem Di.enc_ok : Enc 2 Di.enc:=⟨fun _=>rfl,fun _ u h=>by simp [Di.enc] at h; rcases h with rfl | rfl <;> rfl⟩
def Le.enc (x : Le) : List Value:=[sV x.Race,iV x.Time]
theorem Le.enc_ok : Enc 2 Le.enc:=⟨fun _=>rfl,fun _ u h=>by simp [Le.enc] at h; rcases h with rfl | rfl <;> rfl⟩
def Sh (φ : View) (x : (List An)) (r : RS) : Prop:=Slc φ 5 r.val (x.map An.enc)
theorem Zr {φ ψ : View} (l : View.le φ ψ) (x : (List An)) (r : RS) (h : Sh φ x r) : Sh ψ x r:=Slc.mono h l
theorem Yz {φ ψ : View} (l : View.le φ ψ) {xs : List (List An)} {rs : List RS} (h : Ko (Sh φ) xs rs) : Ko (Sh ψ) xs rs:=h.chg (Zr l)
theorem Tryz.mixed : Tryz.prog.follows .mixedOrders = true:=by kernel_rfl
theorem Mz : SlT Tryz.prog 22 3 1 8:=Qz (z:=(iV 0)) Tryz.underlying22 Tryz.sizeOf3 (by kernel_rfl) rfl
theorem Pt : SlT Tryz.prog 26 52 3 32:=Qz (z:=(.agg #[sV Co,iV 0,iV 0])) Tryz.underlying26 Tryz.sizeOf52 (by kernel_rfl) rfl
theorem Hz : SlT Tryz.prog 28 55 5 64:=Qz (z:=(.agg #[sV Co,sV Co,sV Co,iV 0,bV false])) Tryz.underlying28 Tryz.sizeOf55 (by kernel_rfl) rfl
theorem Ww : SlT Tryz.prog 33 43 2 32:=Qz (z:=(.agg #[sV Co,sV Co])) Tryz.underlying33 Tryz.sizeOf43 (by kernel_rfl) rfl
theorem Pu : SlT Tryz.prog 60 64 4 40:=Qz (z:=(.agg #[sV Co,iV 0,iV 0,iV 0])) Tryz.underlying60 Tryz.sizeOf64 (by kernel_rfl) rfl
theorem sl_73 : SlT Tryz.prog 73 72 2 16:=Qz (z:=(.agg #[bV false,iV 0])) Tryz.underlying73 Tryz.sizeOf72 (by kernel_rfl) rfl
theorem Kp : SlT Tryz.prog 75 9 1 16:=Qz (z:=(sV Co)) Tryz.underlying75 Tryz.sizeOf9 (by kernel_rfl) rfl
theorem Yb : SlT Tryz.prog 85 84 2 24:=Qz (z:=(.agg #[sV Co,iV 0])) Tryz.underlying85 Tryz.sizeOf84 (by kernel_rfl) rfl
theorem Tm : SlT Tryz.prog 102 28 1 24:=Qz (z:=(.slice none 0 0)) Tryz.underlying102 Tryz.sizeOf28 (by kernel_rfl) rfl
theorem Ni : ED Tryz.prog 62 3:=⟨_,Tryz.underlying62,Tryz.sizeOf3⟩
theorem Wg : Rb Tryz.prog 25 0 0:=⟨_,_,_,Tryz.underlying25,rfl,Tryz.sizeOf22,rfl,rfl⟩
theorem Uh : Rb Tryz.prog 25 1 1:=⟨_,_,_,Tryz.underlying25,rfl,Tryz.sizeOf3,rfl,rfl⟩
theorem Rh : Rb Tryz.prog 50 0 0:=⟨_,_,_,Tryz.underlying50,rfl,Tryz.sizeOf3,rfl,rfl⟩
theorem Ri : Rb Tryz.prog 50 1 1:=⟨_,_,_,Tryz.underlying50,rfl,Tryz.sizeOf3,rfl,rfl⟩
theorem Za : Rb Tryz.prog 52 0 0:=⟨_,_,_,Tryz.underlying52,rfl,Tryz.sizeOf9,rfl,rfl⟩
theorem Nr : Rb Tryz.prog 52 1 1:=⟨_,_,_,Tryz.underlying52,rfl,Tryz.sizeOf50,rfl,rfl⟩
theorem Kn : Rb Tryz.prog 55 0 0:=⟨_,_,_,Tryz.underlying55,rfl,Tryz.sizeOf9,rfl,rfl⟩
theorem Mm : Rb Tryz.prog 55 1 1:=⟨_,_,_,Tryz.underlying55,rfl,Tryz.sizeOf9,rfl,rfl⟩
theorem Ns : Rb Tryz.prog 55 2 2:=⟨_,_,_,Tryz.underlying55,rfl,Tryz.sizeOf9,rfl,rfl⟩
theorem Hh : Rb Tryz.prog 55 3 3:=⟨_,_,_,Tryz.underlying55,rfl,Tryz.sizeOf3,rfl,rfl⟩
theorem Sw : Rb Tryz.prog 55 4 4:=⟨_,_,_,Tryz.underlying55,rfl,Tryz.sizeOf4,rfl,rfl⟩
theorem Wh : Rb Tryz.prog 64 0 0:=⟨_,_,_,Tryz.underlying64,rfl,Tryz.sizeOf9,rfl,rfl⟩
theorem Oi : Rb Tryz.prog 64 1 1:=⟨_,_,_,Tryz.underlying64,rfl,Tryz.sizeOf62,rfl,rfl⟩
theorem fa_72_0 : Rb Tryz.prog 72 0 0:=⟨_,_,_,Tryz.underlying72,rfl,Tryz.sizeOf4,rfl,rfl⟩
theorem fa_72_1 : Rb Tryz.prog 72 1 1:=⟨_,_,_,Tryz.underlying72,rfl,Tryz.sizeOf30,rfl,rfl⟩
theorem Wi : Rb Tryz.prog 84 0 0:=⟨_,_,_,Tryz.underlying84,rfl,Tryz.sizeOf9,rfl,rfl⟩
theorem BT : Rb Tryz.prog 84 1 1:=⟨_,_,_,Tryz.underlying84,rfl,Tryz.sizeOf3,rfl,rfl⟩
theorem eq_43 (dd : Nat) (x y : Dy) (w : World) : (Op.equalIn (dd + 2) 43 (.agg (Dy.enc x).toArray) (.agg (Dy.enc y).toArray)).run Tryz.prog w = .ok (decide (x = y)) w:=by
  refine Ue (dd:=dd + 1) (fs:=(Tryz.prog.fieldsOf 43).toList) (by kernel_rfl) rfl (by kernel_rfl) (?_ : _ = Result.ok (decide (x.Name = y.Name) && (decide (x.Value = y.Value) && true)) w) (by cases x; cases y; simp [Bool.decide_and])
  simp only [Program.fieldsOf,Tryz.underlying43]
  exact (Ud (by decide) (Mc Tryz.isAgg9 rfl) (Mc Tryz.isAgg9 rfl) (Pz Tryz.underlying9) (Ud (by decide) (Mc Tryz.isAgg9 rfl) (Mc Tryz.isAgg9 rfl) (Pz Tryz.underlying9) BM))
theorem rn_eql_43 {a : Act} {w : World} {x y : Operand} {u ty : TypeId} {m n : Dy} (hx : a.eval x = .agg (Dy.enc m).toArray) (hy : a.eval y = .agg (Dy.enc n).toArray) : Rn Tryz.prog a w (.binOp .eql 43 x y u) ty (.bool (decide (m = n))) :=
  BN 2 (by kernel_rfl) (fun w=>eq_43 _ m n w) rfl hx hy
theorem CV {a : Act} {w : World} {x y : Operand} {u ty : TypeId} {m n : Dy} (hx : a.eval x = .agg (Dy.enc m).toArray) (hy : a.eval y = .agg (Dy.enc n).toArray) : Rn Tryz.prog a w (.binOp .neq 43 x y u) ty (.bool (!decide (m = n))) :=
  BO 2 (by kernel_rfl) (fun w=>eq_43 _ m n w) rfl hx hy
theorem AW (dd : Nat) (x y : Cv) (w : World) : (Op.equalIn (dd + 2) 101 (.agg (Cv.enc x).toArray) (.agg (Cv.enc y).toArray)).run Tryz.prog w = .ok (decide (x = y)) w:=by
  refine Ue (dd:=dd + 1) (fs:=(Tryz.prog.fieldsOf 101).toList) (by kernel_rfl) rfl (by kernel_rfl) (?_ : _ = Result.ok (decide (x.race_ = y.race_) && (decide (x.who_ = y.who_) && true)) w) (by cases x; cases y; simp [Bool.decide_and])
  simp only [Program.fieldsOf,Tryz.underlying101]
  exact (Ud (by decide) (Mc Tryz.isAgg9 rfl) (Mc Tryz.isAgg9 rfl) (Pz Tryz.underlying9) (Ud (by decide) (Mc Tryz.isAgg9 rfl) (Mc Tryz.isAgg9 rfl) (Pz Tryz.underlying9) BM))
theorem rn_eql_101 {a : Act} {w : World} {x y : Operand} {u ty : TypeId} {m n : Cv} (hx : a.eval x = .agg (Cv.enc m).toArray) (hy : a.eval y = .agg (Cv.enc n).toArray) : Rn Tryz.prog a w (.binOp .eql 101 x y u) ty (.bool (decide (m = n))) :=
  BN 2 (by kernel_rfl) (fun w=>AW _ m n w) rfl hx hy
theorem rn_neq_101 {a : Act} {w : World} {x y : Operand} {u ty : TypeId} {m n : Cv} (hx : a.eval x = .agg (Cv.enc m).toArray) (hy : a.eval y = .agg (Cv.enc n).toArray) : Rn Tryz.prog a w (.binOp .neq 101 x y u) ty (.bool (!decide (m = n))) :=
  BO 2 (by kernel_rfl) (fun w=>AW _ m n w) rfl hx hy
theorem Zs : CQ Tryz.prog 101 (fun x=>Value.agg (Cv.enc x).toArray) :=
  DY 2 rfl Tryz.underlying101 (fun em x w=>chk_agg Tryz.underlying101 (by
    intro f hf _
    simp only [List.mem_cons,List.not_mem_nil,or_false] at hf
    rcases hf with rfl | rfl
    · exact ⟨_,fun w=>Mc Tryz.isAgg9 rfl,fun w=>BP Tryz.underlying9⟩
    · exact ⟨_,fun w=>Mc Tryz.isAgg9 rfl,fun w=>BP Tryz.underlying9⟩)) AW (fun x=>by simp [Instr.sameBits,Cv.enc,CR])
theorem bt_25 : Xi Tryz.prog 25 (.agg #[.slice none 0 0,iV 0]) [(0,1),(1,1)]:=⟨_,Tryz.underlying25,Tryz.zeroValue25,fun _=>by kernel_rfl⟩
theorem bt_43 : Xi Tryz.prog 43 (.agg #[sV Co,sV Co]) [(0,1),(1,1)]:=⟨_,Tryz.underlying43,Tryz.zeroValue43,fun _=>by kernel_rfl⟩
theorem bt_50 : Xi Tryz.prog 50 (.agg #[iV 0,iV 0]) [(0,1),(1,1)]:=⟨_,Tryz.underlying50,Tryz.zeroValue50,fun _=>by kernel_rfl⟩
theorem bt_52 : Xi Tryz.prog 52 (.agg #[sV Co,iV 0,iV 0]) [(0,1),(1,2)]:=⟨_,Tryz.underlying52,Tryz.zeroValue52,fun _=>by kernel_rfl⟩
theorem bt_55 : Xi Tryz.prog 55 (.agg #[sV Co,sV Co,sV Co,iV 0,bV false]) [(0,1),(1,1),(2,1),(3,1),(4,1)]:=⟨_,Tryz.underlying55,Tryz.zeroValue55,fun _=>by kernel_rfl⟩
theorem bt_64 : Xi Tryz.prog 64 (.agg #[sV Co,iV 0,iV 0,iV 0]) [(0,1),(1,3)]:=⟨_,Tryz.underlying64,Tryz.zeroValue64,fun _=>by kernel_rfl⟩
theorem BU : Xi Tryz.prog 72 (.agg #[bV false,iV 0]) [(0,1),(1,1)]:=⟨_,Tryz.underlying72,Tryz.zeroValue72,fun _=>by kernel_rfl⟩
theorem bt_84 : Xi Tryz.prog 84 (.agg #[sV Co,iV 0]) [(0,1),(1,1)]:=⟨_,Tryz.underlying84,Tryz.zeroValue84,fun _=>by kernel_rfl⟩
theorem EF : Xi Tryz.prog 101 (.agg #[sV Co,sV Co]) [(0,1),(1,1)]:=⟨_,Tryz.underlying101,Tryz.zeroValue101,fun _=>by kernel_rfl⟩
end Go.Proofs.YtocmlionnalaaaaGreatDoor
