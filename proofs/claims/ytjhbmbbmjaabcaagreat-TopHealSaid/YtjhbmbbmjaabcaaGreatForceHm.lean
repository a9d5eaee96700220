/-
  The plain world told: a function of it is the same function of it told. No condition.
-/
import Derived.Test.YtjhbmbbmjaabcaaGreatTop11m
namespace Go.Proofs.YtjhbmbbmjaabcaaGreat
open Go Go.Sort Go.RowKit
set_option linter.unusedVariables false

def fN {α : Type} (n : Nat) (k : Nat → α) : α := Nat.casesOn n (k 0) (fun m => k (Nat.succ m))
theorem fN_is {α : Type} (n : Nat) (k : Nat → α) : fN n k = k n := by cases n <;> rfl
def fI {α : Type} (i : Int) (k : Int → α) : α := Int.casesOn i (fun n => fN n fun n => k (Int.ofNat n)) (fun n => fN n fun n => k (Int.negSucc n))
theorem fI_is {α : Type} (i : Int) (k : Int → α) : fI i k = k i := by cases i <;> simp only [fI, fN_is]
def fB {α : Type} (b : Bool) (k : Bool → α) : α := Bool.casesOn b (k false) (k true)
theorem fB_is {α : Type} (b : Bool) (k : Bool → α) : fB b k = k b := by cases b <;> rfl
def fL {α β : Type} (f : β → (β → α) → α) : List β → (List β → α) → α
  | [], k => k []
  | x :: l, k => f x fun x => fL f l fun l => k (x :: l)
theorem fL_is {α β : Type} {f : β → (β → α) → α} (hf : ∀ x k, f x k = k x) : ∀ (l : List β) (k : List β → α), fL f l k = k l
  | [], _ => rfl
  | x :: l, k => by rw [fL, hf, fL_is hf l]
def fY {α : Type} (b : ByteArray) (k : ByteArray → α) : α := ByteArray.casesOn b fun a => Array.casesOn a fun l => k ⟨⟨l⟩⟩
theorem fY_is {α : Type} (b : ByteArray) (k : ByteArray → α) : fY b k = k b := by cases b with | mk a => cases a; rfl
def fII {α : Type} (x : Int × Int) (k : Int × Int → α) : α := Prod.casesOn x fun a b => fI a fun a => fI b fun b => k (a, b)
theorem fII_is {α : Type} (x : Int × Int) (k : Int × Int → α) : fII x k = k x := by cases x; simp only [fII, fI_is]
def fK {α β : Type} (x : β) (k : β → α) : α := k x
theorem fK_is {α β : Type} (x : β) (k : β → α) : fK x k = k x := rfl
def fIII {α : Type} (x : Int × Int × Int) (k : Int × Int × Int → α) : α := Prod.casesOn x fun a b => fI a fun a => fII b fun b => k (a, b)
theorem fIII_is {α : Type} (x : Int × Int × Int) (k : Int × Int × Int → α) : fIII x k = k x := by cases x; simp only [fIII, fII_is, fI_is]
def fEn {α : Type} (x : EnD) (k : EnD → α) : α := EnD.casesOn x fun a0 a1 a2 a3 a4 a5 a6 => fI a0 fun a0 => fI a1 fun a1 => fI a2 fun a2 => fI a3 fun a3 => fI a4 fun a4 => fI a5 fun a5 => fY a6 fun a6 => k ⟨a0, a1, a2, a3, a4, a5, a6⟩
theorem fEn_is {α : Type} (x : EnD) (k : EnD → α) : fEn x k = k x := by cases x; simp only [fEn, fI_is, fY_is]
def fMs {α : Type} (x : MsD) (k : MsD → α) : α := MsD.casesOn x fun a0 a1 a2 a3 a4 a5 a6 a7 a8 a9 a10 a11 => fI a0 fun a0 => fI a1 fun a1 => fI a2 fun a2 => fI a3 fun a3 => fI a4 fun a4 => fI a5 fun a5 => fI a6 fun a6 => fI a7 fun a7 => fI a8 fun a8 => fI a9 fun a9 => fI a10 fun a10 => fB a11 fun a11 => k ⟨a0, a1, a2, a3, a4, a5, a6, a7, a8, a9, a10, a11⟩
theorem fMs_is {α : Type} (x : MsD) (k : MsD → α) : fMs x k = k x := by cases x; simp only [fMs, fI_is, fB_is]
def fPf {α : Type} (x : PfD) (k : PfD → α) : α := PfD.casesOn x fun a0 a1 a2 a3 a4 a5 => fI a0 fun a0 => fL fK a1 fun a1 => fB a2 fun a2 => fI a3 fun a3 => fI a4 fun a4 => fI a5 fun a5 => k ⟨a0, a1, a2, a3, a4, a5⟩
theorem fPf_is {α : Type} (x : PfD) (k : PfD → α) : fPf x k = k x := by cases x; simp only [fPf, fI_is, fL_is (fK_is), fB_is]
def fVo {α : Type} (x : VoK) (k : VoK → α) : α := VoK.casesOn x fun a0 a1 a2 a3 => fI a0 fun a0 => fI a1 fun a1 => fL fEn a2 fun a2 => fI a3 fun a3 => k ⟨a0, a1, a2, a3⟩
theorem fVo_is {α : Type} (x : VoK) (k : VoK → α) : fVo x k = k x := by cases x; simp only [fVo, fI_is, fL_is (fEn_is)]
def fQu {α : Type} (x : QuD) (k : QuD → α) : α := QuD.casesOn x fun a0 a1 a2 a3 a4 a5 => fI a0 fun a0 => fI a1 fun a1 => fI a2 fun a2 => fL fI a3 fun a3 => fL fI a4 fun a4 => fI a5 fun a5 => k ⟨a0, a1, a2, a3, a4, a5⟩
theorem fQu_is {α : Type} (x : QuD) (k : QuD → α) : fQu x k = k x := by cases x; simp only [fQu, fI_is, fL_is (fI_is)]
def fTd {α : Type} (x : TdD) (k : TdD → α) : α := TdD.casesOn x fun a0 a1 => fI a0 fun a0 => fEn a1 fun a1 => k ⟨a0, a1⟩
theorem fTd_is {α : Type} (x : TdD) (k : TdD → α) : fTd x k = k x := by cases x; simp only [fTd, fI_is, fEn_is]
def fE8 {α : Type} (x : E8) (k : E8 → α) : α := E8.casesOn x fun a0 a1 a2 a3 a4 a5 a6 a7 => fI a0 fun a0 => fI a1 fun a1 => fI a2 fun a2 => fI a3 fun a3 => fI a4 fun a4 => fI a5 fun a5 => fI a6 fun a6 => fI a7 fun a7 => k ⟨a0, a1, a2, a3, a4, a5, a6, a7⟩
theorem fE8_is {α : Type} (x : E8) (k : E8 → α) : fE8 x k = k x := by cases x; simp only [fE8, fI_is]
def fQn {α : Type} (x : QnD) (k : QnD → α) : α := QnD.casesOn x fun a0 a1 a2 => fI a0 fun a0 => fI a1 fun a1 => fI a2 fun a2 => k ⟨a0, a1, a2⟩
theorem fQn_is {α : Type} (x : QnD) (k : QnD → α) : fQn x k = k x := by cases x; simp only [fQn, fI_is]
def fMe {α : Type} (x : MsD × List EnD) (k : MsD × List EnD → α) : α := Prod.casesOn x fun a b => fMs a fun a => fL fEn b fun b => k (a, b)
theorem fMe_is {α : Type} (x : MsD × List EnD) (k : MsD × List EnD → α) : fMe x k = k x := by cases x; simp only [fMe, fMs_is, fL_is fEn_is]
def fO {α β : Type} (f : β → (β → α) → α) (x : Option β) (k : Option β → α) : α := Option.casesOn x (k none) fun y => f y fun y => k (some y)
theorem fO_is {α β : Type} {f : β → (β → α) → α} (hf : ∀ x k, f x k = k x) (x : Option β) (k : Option β → α) : fO f x k = k x := by cases x <;> simp only [fO, hf]
def fVv {α : Type} (x : Int × List VoK) (k : Int × List VoK → α) : α := Prod.casesOn x fun a b => fI a fun a => fL fVo b fun b => k (a, b)
theorem fVv_is {α : Type} (x : Int × List VoK) (k : Int × List VoK → α) : fVv x k = k x := by cases x; simp only [fVv, fI_is, fL_is fVo_is]
def fV {α : Type} (x : Option (Int × List VoK)) (k : Option (Int × List VoK) → α) : α := fO fVv x k
theorem fV_is {α : Type} (x : Option (Int × List VoK)) (k : Option (Int × List VoK) → α) : fV x k = k x := fO_is fVv_is x k
def fQ {α : Type} (x : Option QuD) (k : Option QuD → α) : α := fO fQu x k
theorem fQ_is {α : Type} (x : Option QuD) (k : Option QuD → α) : fQ x k = k x := fO_is fQu_is x k
def fNd {α : Type} (x : NdD) (k : NdD → α) : α := NdD.casesOn x fun a0 a1 a2 a3 a4 a5 a6 a7 a8 a9 a10 a11 a12 a13 a14 a15 a16 a17 a18 a19 a20 a21 a22 a23 a24 a25 a26 a27 a28 => fI a0 fun a0 => fI a1 fun a1 => fI a2 fun a2 => fI a3 fun a3 => fI a4 fun a4 => fE8 a5 fun a5 => fB a6 fun a6 => fL fEn a7 fun a7 => fI a8 fun a8 => fI a9 fun a9 => fI a10 fun a10 => fI a11 fun a11 => fL fEn a12 fun a12 => fL fTd a13 fun a13 => fN a14 fun a14 => fPf a15 fun a15 => fV a16 fun a16 => fI a17 fun a17 => fB a18 fun a18 => fB a19 fun a19 => fQ a20 fun a20 => fI a21 fun a21 => fI a22 fun a22 => fE8 a23 fun a23 => fL fQn a24 fun a24 => fL fMe a25 fun a25 => fI a26 fun a26 => fI a27 fun a27 => fB a28 fun a28 => k ⟨a0, a1, a2, a3, a4, a5, a6, a7, a8, a9, a10, a11, a12, a13, a14, a15, a16, a17, a18, a19, a20, a21, a22, a23, a24, a25, a26, a27, a28⟩
theorem fNd_is {α : Type} (x : NdD) (k : NdD → α) : fNd x k = k x := by cases x; simp only [fNd, fI_is, fE8_is, fB_is, fL_is (fEn_is), fL_is (fTd_is), fN_is, fPf_is, fV_is, fQ_is, fL_is (fQn_is), fL_is (fMe_is)]
def fSl {α : Type} (x : SlotD) (k : SlotD → α) : α := SlotD.casesOn x (fun s => fNd s fun s => k (.up s)) (fun a b => fI a fun a => fI b fun b => k (.dn a b))
theorem fSl_is {α : Type} (x : SlotD) (k : SlotD → α) : fSl x k = k x := by cases x <;> simp only [fSl, fNd_is, fI_is]
def fWr {α : Type} (x : WrD) (k : WrD → α) : α := WrD.casesOn x fun a0 a1 a2 a3 => fN a0 fun a0 => fL fSl a1 fun a1 => fL fMe a2 fun a2 => fI a3 fun a3 => k ⟨a0, a1, a2, a3⟩
theorem fWr_is {α : Type} (x : WrD) (k : WrD → α) : fWr x k = k x := by cases x; simp only [fWr, fN_is, fL_is (fSl_is), fL_is (fMe_is), fI_is]
def fLw {α : Type} (x : LwD) (k : LwD → α) : α := LwD.casesOn x fun a0 a1 a2 a3 a4 a5 a6 a7 a8 a9 => fWr a0 fun a0 => fN a1 fun a1 => fL (fL fEn) a2 fun a2 => fE8 a3 fun a3 => fE8 a4 fun a4 => fN a5 fun a5 => fL fIII a6 fun a6 => fL fEn a7 fun a7 => fE8 a8 fun a8 => fE8 a9 fun a9 => k ⟨a0, a1, a2, a3, a4, a5, a6, a7, a8, a9⟩
theorem fLw_is {α : Type} (x : LwD) (k : LwD → α) : fLw x k = k x := by cases x; simp only [fLw, fWr_is, fN_is, fL_is (fL_is fEn_is), fE8_is, fL_is (fIII_is), fL_is (fEn_is)]
def roundsF : Nat → LwD → Option LwD
  | 0, L => some L
  | 1, L => roundL L
  | k + 2, L => (roundL L).bind fun L => (roundL L).bind fun L => fLw L fun L => roundsF k L
theorem roundsF_is : ∀ (k : Nat) (L : LwD), roundsF k L = roundsL k L
  | 0, L => rfl
  | 1, L => by
    show roundL L = (roundL L).bind fun L => some L
    cases roundL L <;> rfl
  | k + 2, L => by
    show (roundL L).bind (fun L => (roundL L).bind fun L => fLw L fun L => roundsF k L) = (roundL L).bind fun L => (roundL L).bind fun L => roundsL k L
    exact congrArg _ (funext fun L => congrArg _ (funext fun L => (fLw_is _ _).trans (roundsF_is k L)))
def wellF (n : Nat) : Option LwD := (newL n).bind (roundsF 20)
theorem wellF_is (n : Nat) : wellF n = wellL n := by unfold wellF wellL; rw [funext (roundsF_is 20)]
end Go.Proofs.YtjhbmbbmjaabcaaGreat
set_option linter.unusedVariables false
set_option maxRecDepth 8000
set_option maxHeartbeats 8000000

